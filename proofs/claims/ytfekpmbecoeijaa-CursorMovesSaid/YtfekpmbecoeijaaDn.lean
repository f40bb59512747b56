import Derived.Test.YtfekpmbecoeijaaDd
import Derived.Test.YtfekpmbecoeijaaQf15
import Derived.Test.YtfekpmbecoeijaaQf18
import Derived.Test.YtfekpmbecoeijaaQf39
import Derived.Test.YtfekpmbecoeijaaQf38
import Derived.Test.YtfekpmbecoeijaaQf48
set_option linter.unusedVariables false
namespace Go.Proofs.Ytfekpmbecoeijaa.Pure
open Go.RowKit Go.Proofs.Ytfekpmbecoeijaa.Q Go.Proofs.YtfekpmbecoeijaaW.PrintWords Go.Proofs.YtfekpmbecoeijaaW.PrintLast
open Hand (cloneB textLen lenL ownL sizes preF preL lenOf cOwn lens offF Cu downF nextUp nextF prevF lastF leafF leafGo kidAt rootC txtJ)
theorem ord_plen : ∀ (d : Nat) (n : S26), ∀ p ∈ ord d n, p.length < d
  | 0, n, p, h => by simp [ord] at h
  | d + 1, n, p, h => by
    simp only [ord] at h
    rcases List.mem_cons.1 h with rfl | h
    · simp
    · have key : ∀ (l : List S26) (i : Int), p ∈ ordK (ord d) l i → p.length < d + 1 := by
        intro l
        induction l with
        | nil => intro i h; simp [ordK] at h
        | cons k l ih =>
          intro i h
          simp only [ordK] at h
          rcases List.mem_append.1 h with h | h
          · obtain ⟨q, hq, rfl⟩ := List.mem_map.1 h
            have := ord_plen d k q hq
            simpa using this
          · exact ih (i + 1) h
      exact key n.f6 0 h
theorem ordK_head {d : Nat} : ∀ (l : List S26) (i : Int), ∀ p ∈ ordK (ord d) l i, ∃ j q, p = j :: q ∧ i ≤ j
  | [], i, p, h => by simp [ordK] at h
  | k :: l, i, p, h => by
    simp only [ordK] at h
    rcases List.mem_append.1 h with h | h
    · obtain ⟨q, _, rfl⟩ := List.mem_map.1 h
      exact ⟨i, q, rfl, Int.le_refl _⟩
    · obtain ⟨j, q, e, hj⟩ := ordK_head l (i + 1) p h
      exact ⟨j, q, e, by omega⟩
theorem ord_nodup : ∀ (d : Nat) (n : S26), (ord d n).Nodup
  | 0, n => List.Pairwise.nil
  | d + 1, n => by
    have key : ∀ (l : List S26) (i : Int), (ordK (ord d) l i).Nodup := by
      intro l
      induction l with
      | nil => intro i; exact List.Pairwise.nil
      | cons k l ih =>
        intro i
        simp only [ordK]
        refine List.nodup_append.2 ⟨?_, ih (i + 1), ?_⟩
        · exact List.pairwise_map.2 ((ord_nodup d k).imp (fun h e => h (List.cons.inj e).2))
        · intro a ha b hb e
          subst e
          obtain ⟨q, _, rfl⟩ := List.mem_map.1 ha
          obtain ⟨j, q2, e, hj⟩ := ordK_head l (i + 1) _ hb
          have := (List.cons.inj e).1
          omega
    simp only [ord]
    refine List.nodup_cons.2 ⟨fun h => ?_, key n.f6 0⟩
    obtain ⟨j, q, e, _⟩ := ordK_head n.f6 0 [] h
    cases e
theorem same_dec (p q : List Int) (hp : p.length < 1000000) : Ev (fun k => arboristref45_Same.f k p q) (decide (p = q)) := by
  by_cases hl : p.length = q.length
  · have key : ∀ (m i : Nat), i + m = p.length → p.take i = q.take i → Ev (fun k => arboristref45_Same.l0 k p q (i : Int)) (decide (p = q)) := by
      intro m
      induction m with
      | zero =>
        intro i hi ht
        have e : p = q := by
          rw [List.take_of_length_le (by omega), List.take_of_length_le (by omega)] at ht
          exact ht
        rw [decide_eq_true e]
        exact Ev.step (f := fun _ => some true) (fun k => by simp only [arboristref45_Same.l0]; rw [if_neg (by omega)]) (Ev.now _)
      | succ m ih =>
        intro i hi ht
        have hip : i < p.length := by omega
        have hiq : i < q.length := by omega
        have r1 : rd p (i : Int) = p[i] := by simp [rd, hip]
        have r2 : rd q (i : Int) = q[i] := by simp [rd, hiq]
        by_cases he : p[i] = q[i]
        · refine Ev.step (fun k => ?_) (ih (i + 1) (by omega) (by rw [List.take_succ_eq_append_getElem hip, List.take_succ_eq_append_getElem hiq, ht, he]))
          simp only [arboristref45_Same.l0]
          rw [if_pos (by omega), if_pos (by omega), if_pos (by omega), r1, r2, if_pos he, w64 (by omega) (by omega)]
          rfl
        · have hne : ¬ p = q := fun e => by subst e; exact he rfl
          rw [decide_eq_false hne]
          refine Ev.step (f := fun _ => some false) (fun k => ?_) (Ev.now _)
          simp only [arboristref45_Same.l0]
          rw [if_pos (by omega), if_pos (by omega), if_pos (by omega), r1, r2, if_neg he]
    unfold arboristref45_Same.f
    exact Ev.congr (fun k => if_pos (by omega)) (key p.length 0 (by omega) rfl)
  · have hne : ¬ p = q := fun e => hl (by rw [e])
    rw [decide_eq_false hne]
    unfold arboristref45_Same.f
    exact Ev.congr (f := fun _ => some false) (fun k => if_neg (by omega)) (Ev.now _)
abbrev OF (k : Nat) (n : S26) := arboristref45_Order.f k n.f0 n.f1 n.f2 n.f3 n.f4 n.f5 n.f6
theorem rdL5 {l : List (List Int)} {i : Nat} (h : i < l.length) : rd_L5 l (i : Int) = l[i] := by simp [rd_L5, h]
theorem sum_mem {α : Type} {f : α → Nat} : ∀ {l : List α} {y : α}, y ∈ l → f y ≤ (l.map f).sum := fun h => le_sum (List.mem_map_of_mem h)
theorem order_ev : ∀ (d : Nat) (n : S26), small d n = true → cnt d n ≤ 80 → d ≤ 100 → Ev (fun k => OF k n) (ord d n)
  | 0, n, h, _, _ => by simp [small] at h
  | d + 1, n, h, hc, hd => by
    obtain ⟨h4, h6, hk⟩ := small_succ.1 h
    have hcs : (n.f6.map (cnt d)).sum ≤ 79 := by
      have : cnt (d + 1) n = 1 + (n.f6.map (cnt d)).sum := rfl
      omega
    have hlen : (ordK (ord d) n.f6 0).length ≤ 79 := by
      have e1 := ord_len (d + 1) n h
      rw [pre_len (d + 1) n h] at e1
      simp only [ord, List.length_cons] at e1
      omega
    have k1 : ∀ (T : List (List Int)) (i : Nat) (R : List (List Int)), (∀ p ∈ T, p.length < 1000) → ∀ (q m : Nat) (x3 : List (List Int)), m + q = T.length → x3.length + q ≤ 100000 → T.length ≤ 1000 →
        Ev (fun k => arboristref45_Order.l0 k (x3 ++ (T.drop m).map ((i : Int) :: ·)) (wrap64 ((i : Int) + 1)) n.f0 n.f1 n.f2 n.f3 n.f4 n.f5 n.f6) R →
        Ev (fun k => arboristref45_Order.l1 k x3 (i : Int) T (m : Int) n.f0 n.f1 n.f2 n.f3 n.f4 n.f5 n.f6) R := by
      intro T i R hT q
      induction q with
      | zero =>
        intro m x3 hm hx hq hR
        rw [List.drop_of_length_le (by omega), List.map_nil, List.append_nil] at hR
        refine Ev.step (fun k => ?_) hR
        simp only [arboristref45_Order.l1]
        rw [if_neg (by omega)]
      | succ q ih =>
        intro m x3 hm hx hq hR
        have hmT : m < T.length := by omega
        have hpl := hT T[m] (List.getElem_mem hmT)
        rw [List.drop_eq_getElem_cons hmT, List.map_cons] at hR
        refine Ev.step (fun k => ?_) (ih (m + 1) (x3 ++ [(i : Int) :: T[m]]) (by omega) (by rw [List.length_append, List.length_singleton]; omega) (by omega) (by rw [List.append_assoc]; exact hR))
        simp only [arboristref45_Order.l1]
        rw [if_pos (by omega), Option.bind_some, if_pos (by omega), rdL5 hmT, if_pos (by simp; omega), if_pos (by omega), w64 (by omega) (by omega)]
        rfl
    have k0 : ∀ (q i : Nat) (x3 : List (List Int)), i + q = n.f6.length → x3.length + (ordK (ord d) (n.f6.drop i) (i : Int)).length ≤ 1000 → Ev (fun k => arboristref45_Order.l0 k x3 (i : Int) n.f0 n.f1 n.f2 n.f3 n.f4 n.f5 n.f6) (x3 ++ ordK (ord d) (n.f6.drop i) (i : Int)) := by
      intro q
      induction q with
      | zero =>
        intro i x3 hi hx
        rw [List.drop_of_length_le (by omega)]
        refine Ev.step (f := fun _ => some x3) (fun k => ?_) (by simp only [ordK, List.append_nil]; exact Ev.now _)
        simp only [arboristref45_Order.l0]
        rw [if_neg (by omega)]
      | succ q ih =>
        intro i x3 hi hx
        have hi' : i < n.f6.length := by omega
        have hr : rd_T26 n.f6 (i : Int) = n.f6[i] := rd26 (List.getElem?_eq_getElem hi')
        have hmem := List.getElem_mem hi'
        have hsub := order_ev d n.f6[i] (hk _ hmem) (by have := sum_mem (f := cnt d) hmem; omega) (by omega)
        rw [List.drop_eq_getElem_cons hi'] at hx ⊢
        simp only [ordK, List.length_append, List.length_map] at hx ⊢
        have hnext := ih (i + 1) (x3 ++ (ord d n.f6[i]).map ((i : Int) :: ·)) (by omega) (by rw [List.length_append, List.length_map, show ((i + 1 : Nat) : Int) = (i : Int) + 1 from by omega]; omega)
        rw [show ((i + 1 : Nat) : Int) = (i : Int) + 1 from by omega, List.append_assoc] at hnext
        refine Ev.step (fun k => ?_) (Ev.bind (f := fun k t => arboristref45_Order.l1 k x3 (i : Int) t 0 n.f0 n.f1 n.f2 n.f3 n.f4 n.f5 n.f6) hsub (k1 (ord d n.f6[i]) i _ (fun p hp => by have := ord_plen d _ p hp; omega) (ord d n.f6[i]).length 0 x3 (by omega) (by omega) (by omega) ?_))
        · simp only [arboristref45_Order.l0]
          rw [if_pos (by omega), if_pos (by omega), hr]
        · rw [List.drop_zero, w64 (by omega) (by omega)]
          exact hnext
    refine Ev.step (fun k => rfl) ?_
    have := k0 n.f6.length 0 [[]] (by omega) (by rw [List.drop_zero]; simp; omega)
    rw [List.drop_zero] at this
    exact this
abbrev AF (k : Nat) (n : S26) := arboristref42_All.f k n.f0 n.f1 n.f2 n.f3 n.f4 n.f5 n.f6
theorem all_ev : ∀ (d : Nat) (n : S26), small d n = true → cnt d n ≤ 80 → Ev (fun k => AF k n) (pre d n)
  | 0, n, h, _ => by simp [small] at h
  | d + 1, n, h, hc => by
    obtain ⟨h4, h6, hk⟩ := small_succ.1 h
    have hcs : (n.f6.map (cnt d)).sum ≤ 79 := by
      have : cnt (d + 1) n = 1 + (n.f6.map (cnt d)).sum := rfl
      omega
    have hlen : (n.f6.flatMap (pre d)).length ≤ 79 := by
      have e1 := pre_len (d + 1) n h
      simp only [pre, List.length_cons] at e1
      omega
    have k0 : ∀ (q i : Nat) (x3 : List S26), i + q = n.f6.length → x3.length + ((n.f6.drop i).flatMap (pre d)).length ≤ 1000 → Ev (fun k => arboristref42_All.l0 k x3 (i : Int) n.f0 n.f1 n.f2 n.f3 n.f4 n.f5 n.f6) (x3 ++ (n.f6.drop i).flatMap (pre d)) := by
      intro q
      induction q with
      | zero =>
        intro i x3 hi hx
        rw [List.drop_of_length_le (by omega)]
        refine Ev.step (f := fun _ => some x3) (fun k => ?_) (by simp only [List.flatMap_nil, List.append_nil]; exact Ev.now _)
        simp only [arboristref42_All.l0]
        rw [if_neg (by omega)]
      | succ q ih =>
        intro i x3 hi hx
        have hi' : i < n.f6.length := by omega
        have hr : rd_T26 n.f6 (i : Int) = n.f6[i] := rd26 (List.getElem?_eq_getElem hi')
        have hmem := List.getElem_mem hi'
        have hsub := all_ev d n.f6[i] (hk _ hmem) (by have := sum_mem (f := cnt d) hmem; omega)
        rw [List.drop_eq_getElem_cons hi'] at hx ⊢
        rw [List.flatMap_cons] at hx ⊢
        rw [List.length_append] at hx
        have hnext := ih (i + 1) (x3 ++ pre d n.f6[i]) (by omega) (by rw [List.length_append]; omega)
        rw [List.append_assoc] at hnext
        refine Ev.step (fun k => ?_) (Ev.bind (f := fun k t => if x3.length + t.length < 1466015503701 then arboristref42_All.l0 k (x3 ++ t) (wrap64 ((i : Int) + 1)) n.f0 n.f1 n.f2 n.f3 n.f4 n.f5 n.f6 else none) hsub (Ev.congr (fun k => if_pos (by omega)) ?_))
        · simp only [arboristref42_All.l0]
          rw [if_pos (by omega), if_pos (by omega), hr]
        · rw [w64 (by omega) (by omega)]
          exact hnext
    refine Ev.step (f := fun k => arboristref42_All.l0 k [n] 0 n.f0 n.f1 n.f2 n.f3 n.f4 n.f5 n.f6) (fun k => ?_) ?_
    · show arboristref42_All.l0 k [(⟨n.f0, n.f1, n.f2, n.f3, n.f4, n.f5, n.f6⟩ : S26)] 0 n.f0 n.f1 n.f2 n.f3 n.f4 n.f5 n.f6 = _
      rw [eta26]
    have := k0 n.f6.length 0 [n] (by omega) (by rw [List.drop_zero]; simp only [List.length_singleton]; omega)
    rw [List.drop_zero] at this
    exact this
section
variable {n y : S26} {A B : List (List Int)} {p : List Int}
theorem place_ev (h : OkT n) (hP : PlaceT n A p B y) (he : ord 100 n = A ++ p :: B) : Ev (fun k => arboristref45_place.f k n.f0 n.f1 n.f2 n.f3 n.f4 n.f5 n.f6 p) (A.length : Int) := by
  have hl := hP.len
  have hct := h.ct
  have hlen : (ord 100 n).length = A.length + 1 + B.length := by rw [he]; simp; omega
  have hnd := ord_nodup 100 n
  have k0 : ∀ (q i : Nat), i + q = A.length → Ev (fun k => arboristref45_place.l0 k (ord 100 n) (i : Int) n.f0 n.f1 n.f2 n.f3 n.f4 n.f5 n.f6 p) (A.length : Int) := by
    intro q
    induction q with
    | zero =>
      intro i hi
      obtain rfl : i = A.length := by omega
      have hg : (ord 100 n)[A.length]'(by omega) = p := by simp [he]
      have hs := same_dec p p (by have := hP.plen; omega)
      rw [decide_eq_true rfl] at hs
      refine Ev.step (fun k => ?_) (Ev.bind (f := fun k t => if t = true then some (A.length : Int) else arboristref45_place.l0 k (ord 100 n) (wrap64 ((A.length : Int) + 1)) n.f0 n.f1 n.f2 n.f3 n.f4 n.f5 n.f6 p) hs (Ev.congr (f := fun _ => some (A.length : Int)) (fun k => if_pos rfl) (Ev.now _)))
      simp only [arboristref45_place.l0]
      rw [if_pos (by omega), if_pos (by omega), rdL5 (by omega), hg]
    | succ q ih =>
      intro i hi
      have hiL : i < (ord 100 n).length := by omega
      have hne : (ord 100 n)[i] ≠ p := by
        have hiA : i < A.length := by omega
        have e1 : (ord 100 n)[i] = A[i] := by simp [he, List.getElem_append_left, hiA]
        have hnd2 := hnd
        rw [he] at hnd2
        rw [e1]
        exact (List.nodup_append.1 hnd2).2.2 A[i] (List.getElem_mem hiA) p List.mem_cons_self
      have hpl := ord_plen 100 n _ (List.getElem_mem hiL)
      have hs := same_dec (ord 100 n)[i] p (by omega)
      rw [decide_eq_false hne] at hs
      refine Ev.step (fun k => ?_) (Ev.bind (f := fun k t => if t = true then some (i : Int) else arboristref45_place.l0 k (ord 100 n) (wrap64 ((i : Int) + 1)) n.f0 n.f1 n.f2 n.f3 n.f4 n.f5 n.f6 p) hs (Ev.congr (fun k => if_neg (by simp)) ?_))
      · simp only [arboristref45_place.l0]
        rw [if_pos (by omega), if_pos (by omega), rdL5 hiL]
      · rw [w64 (by omega) (by omega)]
        exact ih (i + 1) (by omega)
  unfold arboristref45_place.f
  exact Ev.bind (f := fun k t => arboristref45_place.l0 k t 0 n.f0 n.f1 n.f2 n.f3 n.f4 n.f5 n.f6 p) (order_ev 100 n h.sm h.ct (by omega)) (k0 A.length 0 (by omega))
theorem pre_at (h : OkT n) {i : Nat} (hi : i < (pre 100 n).length) : (pre 100 n)[i].f4.length < 300 ∧ textLen (pre 100 n)[i] < 4611686018427387904 := by
  refine ⟨pre_small 100 n h.sm _ (List.getElem_mem hi), ?_⟩
  have h1 := lens_step h (List.getElem?_eq_getElem hi)
  have := h.tt
  omega
theorem refAt_ev (h : OkT n) (hP : PlaceT n A p B y) (he : ord 100 n = A ++ p :: B) : Ev (fun k => arboristref45_At.f k n.f0 n.f1 n.f2 n.f3 n.f4 n.f5 n.f6 p) (lenL ((pre 100 n).take A.length) : Int) := by
  have hl := hP.len
  have hct := h.ct
  have htt := h.tt
  have hplen := pre_len 100 n h.sm
  have k0 : ∀ (q i : Nat), i + q = A.length → Ev (fun k => arboristref45_At.l0 k (pre 100 n) (lenL ((pre 100 n).take i) : Int) (i : Int) n.f0 n.f1 n.f2 n.f3 n.f4 n.f5 n.f6 p) (lenL ((pre 100 n).take A.length) : Int) := by
    intro q
    induction q with
    | zero =>
      intro i hi
      obtain rfl : i = A.length := by omega
      refine Ev.step (fun k => rfl) (Ev.bind (f := fun k t => _) (place_ev h hP he) (Ev.congr (f := fun _ => some _) (fun k => if_neg (by omega)) (Ev.now _)))
    | succ q ih =>
      intro i hi
      have hiL : i < (pre 100 n).length := by omega
      obtain ⟨g1, g2⟩ := pre_at h hiL
      have hst := lens_step h (List.getElem?_eq_getElem hiL)
      have hr : rd_T26 (pre 100 n) (i : Int) = (pre 100 n)[i] := rd26 (List.getElem?_eq_getElem hiL)
      have hown := ownE (pre 100 n)[i] g1 (by omega)
      refine Ev.step (fun k => rfl) (Ev.bind (f := fun k t => _) (place_ev h hP he) (Ev.congr (fun k => if_pos (by omega)) (Ev.congr (fun k => if_pos (by omega)) (Ev.congr (fun k => if_pos (by omega)) ?_))))
      rw [hr]
      refine Ev.bind (f := fun k t => _) hown ?_
      rw [ownT_size, w64 (n := (i : Int) + 1) (by omega) (by omega), w64 (by omega) (by omega)]
      have := ih (i + 1) (by omega)
      rw [hst.1] at this
      exact this
  unfold arboristref45_At.f
  refine Ev.bind (f := fun k t => arboristref45_At.l0 k t 0 0 n.f0 n.f1 n.f2 n.f3 n.f4 n.f5 n.f6 p) (all_ev 100 n h.sm h.ct) ?_
  exact k0 A.length 0 (by omega)
theorem refNode_ev (hP : PlaceT n A p B y) : Ev (fun k => arboristref45_Node.f k n.f0 n.f1 n.f2 n.f3 n.f4 n.f5 n.f6 p) (y.f0, y.f1, y.f2, y.f3, y.f4, y.f5, y.f6) := by
  have h := ref_get_ev p (by have := hP.plen; omega) p.length 0 n (by omega)
  rw [List.drop_zero, hP.get] at h
  unfold arboristref45_Node.f
  exact Ev.bind (f := fun _ t => some (t.1, t.2.1, t.2.2.1, t.2.2.2.1, t.2.2.2.2.1, t.2.2.2.2.2.1, t.2.2.2.2.2.2.1)) h (Ev.now _)
end
end Go.Proofs.Ytfekpmbecoeijaa.Pure
namespace Go.Proofs.Ytfekpmbecoeijaa.Hand
open Go.RowKit Go.Proofs.YtfekpmbecoeijaaW.PrintWords Go.Proofs.YtfekpmbecoeijaaW.PrintLast Go.Proofs.YtfekpmbecoeijaaW.PrintMore Go.Proofs.Ytfekpmbecoeijaa.Q Go.Proofs.Ytfekpmbecoeijaa.RF Go.Proofs.Ytfekpmbecoeijaa.Pure
set_option linter.unusedVariables false
set_option linter.unusedSimpArgs false
set_option maxRecDepth 100000
abbrev refV (n : S26) (A4 : Option Addr) (c4 : Nat) (A6 : Option Addr) (c6 : Nat) (A : Option Addr) (cp : Nat) (p : List Int) : Value :=
  .agg #[.int .i64 n.f0, .int .i64 n.f1, .int .i64 n.f2, .int .i64 n.f3, .slice A4 n.f4.length c4, .string n.f5, .slice A6 n.f6.length c6, .slice A p.length cp]
structure RefR (n : S26) (A4 : Option Addr) (c4 : Nat) (A6 : Option Addr) (c6 : Nat) (A : Option Addr) (cp : Nat) (p : List Int) (w : World) : Prop where
  l4 : n.f4.length ≤ c4
  g4 : Kd.C k76 w A4 n.f4.length n.f4
  l6 : n.f6.length ≤ c6
  g6 : Kd.C k26 w A6 n.f6.length n.f6
  lp : p.length ≤ cp
  gp : Kd.C (Kd.int .i64) w A p.length p
structure RefB (n : S26) (A4 : Option Addr) (c4 : Nat) (A6 : Option Addr) (c6 : Nat) (A : Option Addr) (cp : Nat) (p : List Int) (b : Nat) (w : World) : Prop where
  hb : w.heap[b]? = some (.cells #[.int .i64 n.f0, .int .i64 n.f1, .int .i64 n.f2, .int .i64 n.f3, .slice A4 n.f4.length c4, .string n.f5, .slice A6 n.f6.length c6, .slice A p.length cp] 34 (0, 0))
  hz : w.heap[b + 1]? = some (.cells #[.int .i64 0, .int .i64 0, .int .i64 0, .int .i64 0, .slice none 0 0, .string ⟨#[]⟩, .slice none 0 0, .slice none 0 0] 34 (0, 0))
  r : RefR n A4 c4 A6 c6 A cp p w
section
variable {n : S26} {A4 : Option Addr} {c4 : Nat} {A6 : Option Addr} {c6 : Nat} {A : Option Addr} {cp b : Nat} {p : List Int} {w w' : World}
theorem RefR.below (h : RefR n A4 c4 A6 c6 A cp p w) (hb : Below w.heap.size w w') : RefR n A4 c4 A6 c6 A cp p w' := ⟨h.l4, Kd.C_below h.g4 hb, h.l6, Kd.C_below h.g6 hb, h.lp, Kd.C_below h.gp hb⟩
theorem RefB.below (h : RefB n A4 c4 A6 c6 A cp p b w) (hb : Below w.heap.size w w') : RefB n A4 c4 A6 c6 A cp p b w' := ⟨blk_below h.hb hb, blk_below h.hz hb, h.r.below hb⟩
theorem RefB.new (h : RefR n A4 c4 A6 c6 A cp p w) : RefB n A4 c4 A6 c6 A cp p w.heap.size ((w.alloc (.cells #[.int .i64 n.f0, .int .i64 n.f1, .int .i64 n.f2, .int .i64 n.f3, .slice A4 n.f4.length c4, .string n.f5, .slice A6 n.f6.length c6, .slice A p.length cp] 34)).alloc (.cells #[.int .i64 0, .int .i64 0, .int .i64 0, .int .i64 0, .slice none 0 0, .string ⟨#[]⟩, .slice none 0 0, .slice none 0 0] 34)) ∧
    Below w.heap.size w ((w.alloc (.cells #[.int .i64 n.f0, .int .i64 n.f1, .int .i64 n.f2, .int .i64 n.f3, .slice A4 n.f4.length c4, .string n.f5, .slice A6 n.f6.length c6, .slice A p.length cp] 34)).alloc (.cells #[.int .i64 0, .int .i64 0, .int .i64 0, .int .i64 0, .slice none 0 0, .string ⟨#[]⟩, .slice none 0 0, .slice none 0 0] 34)) := by
  have hb : Below w.heap.size w ((w.alloc (.cells #[.int .i64 n.f0, .int .i64 n.f1, .int .i64 n.f2, .int .i64 n.f3, .slice A4 n.f4.length c4, .string n.f5, .slice A6 n.f6.length c6, .slice A p.length cp] 34)).alloc (.cells #[.int .i64 0, .int .i64 0, .int .i64 0, .int .i64 0, .slice none 0 0, .string ⟨#[]⟩, .slice none 0 0, .slice none 0 0] 34)) := below_alloc (below_alloc (Below.refl _ _) _) _
  exact ⟨⟨blk_alloc (blk_new _ _) _, new_at _ _ (by simp), h.below hb⟩, hb⟩
theorem RefB.cells (h : RefB n A4 c4 A6 c6 A cp p b w) : w.cell? ⟨b, 0, none⟩ = some (.int .i64 n.f0) ∧ w.cell? ⟨b, 1, none⟩ = some (.int .i64 n.f1) ∧ w.cell? ⟨b, 2, none⟩ = some (.int .i64 n.f2) ∧ w.cell? ⟨b, 3, none⟩ = some (.int .i64 n.f3) ∧ w.cell? ⟨b, 4, none⟩ = some (.slice A4 n.f4.length c4) ∧ w.cell? ⟨b, 5, none⟩ = some (.string n.f5) ∧ w.cell? ⟨b, 6, none⟩ = some (.slice A6 n.f6.length c6) ∧ w.cell? ⟨b, 7, none⟩ = some (.slice A p.length cp) :=
  ⟨(blk_cell h.hb 0).trans rfl, (blk_cell h.hb 1).trans rfl, (blk_cell h.hb 2).trans rfl, (blk_cell h.hb 3).trans rfl, (blk_cell h.hb 4).trans rfl, (blk_cell h.hb 5).trans rfl, (blk_cell h.hb 6).trans rfl, (blk_cell h.hb 7).trans rfl⟩
theorem RefB.zeros (h : RefB n A4 c4 A6 c6 A cp p b w) : w.cell? ⟨b + 1, 0, none⟩ = some (.int .i64 0) ∧ w.cell? ⟨b + 1, 1, none⟩ = some (.int .i64 0) ∧ w.cell? ⟨b + 1, 2, none⟩ = some (.int .i64 0) ∧ w.cell? ⟨b + 1, 3, none⟩ = some (.int .i64 0) ∧ w.cell? ⟨b + 1, 4, none⟩ = some (.slice none 0 0) ∧ w.cell? ⟨b + 1, 5, none⟩ = some (.string ⟨#[]⟩) ∧ w.cell? ⟨b + 1, 6, none⟩ = some (.slice none 0 0) ∧ w.cell? ⟨b + 1, 7, none⟩ = some (.slice none 0 0) ∧ ∀ j, w.frozen? ⟨b + 1, j, none⟩ = false :=
  ⟨(blk_cell h.hz 0).trans rfl, (blk_cell h.hz 1).trans rfl, (blk_cell h.hz 2).trans rfl, (blk_cell h.hz 3).trans rfl, (blk_cell h.hz 4).trans rfl, (blk_cell h.hz 5).trans rfl, (blk_cell h.hz 6).trans rfl, (blk_cell h.hz 7).trans rfl, fun j => blk_frozen h.hz j⟩
end
def RefM (n : S26) (A4 : Option Addr) (c4 : Nat) (A6 : Option Addr) (c6 : Nat) (A : Option Addr) (cp : Nat) (p : List Int) (w : World) (b : Bool) (p' : List Int) : Ending → World → Prop := fun e w' =>
  ∃ A' cp', e = .returned (.tuple #[refV n A4 c4 A6 c6 A' cp' p', .bool b]) ∧ p'.length ≤ cp' ∧ ((A' = A ∧ cp' = cp ∧ p' = p) ∨ Kd.F (Kd.int .i64) w' (fun k => w.heap.size ≤ k) A' p'.length p') ∧ Below w.heap.size w w'
theorem RefR.moved {n : S26} {A4 : Option Addr} {c4 : Nat} {A6 : Option Addr} {c6 : Nat} {A A' : Option Addr} {cp cp' : Nat} {p p' : List Int} {w w' : World} {ok : Nat → Prop} (h : RefR n A4 c4 A6 c6 A cp p w) (hb : Below w.heap.size w w') (lp : p'.length ≤ cp') (hp : (A' = A ∧ cp' = cp ∧ p' = p) ∨ Kd.F (Kd.int .i64) w' ok A' p'.length p') : RefR n A4 c4 A6 c6 A' cp' p' w' := by
  have h2 := h.below hb
  rcases hp with ⟨rfl, rfl, rfl⟩ | hp
  · exact h2
  · exact ⟨h2.l4, h2.g4, h2.l6, h2.g6, lp, Kd.F_now hp⟩
def setRef (w : World) (b : Nat) (n : S26) (A4 : Option Addr) (c4 : Nat) (A6 : Option Addr) (c6 : Nat) (A : Option Addr) (cp : Nat) (p : List Int) : World :=
  (((((((w.setCell ⟨b, 0, none⟩ (.int .i64 n.f0)).setCell ⟨b, 1, none⟩ (.int .i64 n.f1)).setCell ⟨b, 2, none⟩ (.int .i64 n.f2)).setCell ⟨b, 3, none⟩ (.int .i64 n.f3)).setCell ⟨b, 4, none⟩ (.slice A4 n.f4.length c4)).setCell ⟨b, 5, none⟩ (.string n.f5)).setCell ⟨b, 6, none⟩ (.slice A6 n.f6.length c6)).setCell ⟨b, 7, none⟩ (.slice A p.length cp)
section
variable {n : S26} {A4 : Option Addr} {c4 : Nat} {A6 : Option Addr} {c6 : Nat} {A A' : Option Addr} {cp cp' b : Nat} {p p' : List Int} {w w0 w' : World}
theorem setRef_heap (hz : w.heap[b]? = some (.cells #[.int .i64 0, .int .i64 0, .int .i64 0, .int .i64 0, .slice none 0 0, .string ⟨#[]⟩, .slice none 0 0, .slice none 0 0] 34 (0, 0))) :
    (setRef w b n A4 c4 A6 c6 A cp p).heap[b]? = some (.cells #[.int .i64 n.f0, .int .i64 n.f1, .int .i64 n.f2, .int .i64 n.f3, .slice A4 n.f4.length c4, .string n.f5, .slice A6 n.f6.length c6, .slice A p.length cp] 34 (0, 0)) := by
  have h0 := blk_put (cs' := #[.int .i64 n.f0, .int .i64 0, .int .i64 0, .int .i64 0, .slice none 0 0, .string ⟨#[]⟩, .slice none 0 0, .slice none 0 0]) hz 0 (.int .i64 n.f0) rfl
  have h1 := blk_put (cs' := #[.int .i64 n.f0, .int .i64 n.f1, .int .i64 0, .int .i64 0, .slice none 0 0, .string ⟨#[]⟩, .slice none 0 0, .slice none 0 0]) h0 1 (.int .i64 n.f1) rfl
  have h2 := blk_put (cs' := #[.int .i64 n.f0, .int .i64 n.f1, .int .i64 n.f2, .int .i64 0, .slice none 0 0, .string ⟨#[]⟩, .slice none 0 0, .slice none 0 0]) h1 2 (.int .i64 n.f2) rfl
  have h3 := blk_put (cs' := #[.int .i64 n.f0, .int .i64 n.f1, .int .i64 n.f2, .int .i64 n.f3, .slice none 0 0, .string ⟨#[]⟩, .slice none 0 0, .slice none 0 0]) h2 3 (.int .i64 n.f3) rfl
  have h4 := blk_put (cs' := #[.int .i64 n.f0, .int .i64 n.f1, .int .i64 n.f2, .int .i64 n.f3, .slice A4 n.f4.length c4, .string ⟨#[]⟩, .slice none 0 0, .slice none 0 0]) h3 4 (.slice A4 n.f4.length c4) rfl
  have h5 := blk_put (cs' := #[.int .i64 n.f0, .int .i64 n.f1, .int .i64 n.f2, .int .i64 n.f3, .slice A4 n.f4.length c4, .string n.f5, .slice none 0 0, .slice none 0 0]) h4 5 (.string n.f5) rfl
  have h6 := blk_put (cs' := #[.int .i64 n.f0, .int .i64 n.f1, .int .i64 n.f2, .int .i64 n.f3, .slice A4 n.f4.length c4, .string n.f5, .slice A6 n.f6.length c6, .slice none 0 0]) h5 6 (.slice A6 n.f6.length c6) rfl
  have h7 := blk_put (cs' := #[.int .i64 n.f0, .int .i64 n.f1, .int .i64 n.f2, .int .i64 n.f3, .slice A4 n.f4.length c4, .string n.f5, .slice A6 n.f6.length c6, .slice A p.length cp]) h6 7 (.slice A p.length cp) rfl
  exact h7
theorem setRef_below (hb : Below w0.heap.size w0 w) (h : w0.heap.size ≤ b) : Below w0.heap.size w0 (setRef w b n A4 c4 A6 c6 A cp p) :=
  below_set (below_set (below_set (below_set (below_set (below_set (below_set (below_set hb h) h) h) h) h) h) h) h
theorem setRef_chg : Chg (fun k => k = b) w (setRef w b n A4 c4 A6 c6 A cp p) :=
  (((((((Chg.set (T := fun k => k = b) _ ⟨b, 0, none⟩ (.int .i64 n.f0) rfl).trans (Chg.set (T := fun k => k = b) _ ⟨b, 1, none⟩ (.int .i64 n.f1) rfl) (fun _ _ h => h)).trans (Chg.set (T := fun k => k = b) _ ⟨b, 2, none⟩ (.int .i64 n.f2) rfl) (fun _ _ h => h)).trans (Chg.set (T := fun k => k = b) _ ⟨b, 3, none⟩ (.int .i64 n.f3) rfl) (fun _ _ h => h)).trans (Chg.set (T := fun k => k = b) _ ⟨b, 4, none⟩ (.slice A4 n.f4.length c4) rfl) (fun _ _ h => h)).trans (Chg.set (T := fun k => k = b) _ ⟨b, 5, none⟩ (.string n.f5) rfl) (fun _ _ h => h)).trans (Chg.set (T := fun k => k = b) _ ⟨b, 6, none⟩ (.slice A6 n.f6.length c6) rfl) (fun _ _ h => h)).trans (Chg.set (T := fun k => k = b) _ ⟨b, 7, none⟩ (.slice A p.length cp) rfl) (fun _ _ h => h)
end
theorem ref_ret {fn : Func} {u t : Tmp} (hr : fn.results = #[.cell u 34, .tmp t]) {n : S26} {A4 : Option Addr} {c4 : Nat} {A6 : Option Addr} {c6 : Nat} {A A0 : Option Addr} {cp cp0 b : Nat} {p p0 : List Int} {w w0 w' : World} {tmps : Array Value} {bo : Bool}
    (hp : tmps.getD u undef = .pointer (some ⟨b, 0, none⟩)) (hq : tmps.getD t undef = .bool bo) (hz : w.heap[b]? = some (.cells #[.int .i64 0, .int .i64 0, .int .i64 0, .int .i64 0, .slice none 0 0, .string ⟨#[]⟩, .slice none 0 0, .slice none 0 0] 34 (0, 0))) (hw : w' = setRef w b n A4 c4 A6 c6 A cp p)
    (hb : Below w0.heap.size w0 w) (hle : w0.heap.size ≤ b) (lp : p.length ≤ cp) (gp : (A = A0 ∧ cp = cp0 ∧ p = p0) ∨ Kd.F (Kd.int .i64) w (fun k => w0.heap.size ≤ k ∧ k ≠ b) A p.length p) : bodyPost Try.prog fn (RefM n A4 c4 A6 c6 A0 cp0 p0 w0 bo p) .ret { tmps := tmps, defers := [] } w' := by
  subst hw
  have h1 := results_ct (P := Try.prog) hr tmps _ b 34 _ (0, 0) _ hp (setRef_heap (n := n) (A4 := A4) (c4 := c4) (A6 := A6) (c6 := c6) (A := A) (cp := cp) (p := p) hz) Try.underlying34 rfl (by kernel_rfl)
  rw [hq] at h1
  have hb2 := setRef_below (n := n) (A4 := A4) (c4 := c4) (A6 := A6) (c6 := c6) (A := A) (cp := cp) (p := p) hb hle
  exact bodyPost_ret h1 rfl ⟨A, cp, rfl, lp, gp.imp id (fun gp => Kd.F_mono (Kd.F_step gp (fun k hk hlt => setRef_chg.block k hlt hk.2)) (fun k hk => hk.1)), hb2⟩
end Go.Proofs.Ytfekpmbecoeijaa.Hand
namespace Go.Proofs.Ytfekpmbecoeijaa.Hand
open Go.RowKit Go.Proofs.YtfekpmbecoeijaaW.PrintWords Go.Proofs.YtfekpmbecoeijaaW.PrintLast Go.Proofs.YtfekpmbecoeijaaW.PrintMore Go.Proofs.Ytfekpmbecoeijaa.Q Go.Proofs.Ytfekpmbecoeijaa.RF Go.Proofs.Ytfekpmbecoeijaa.Pure
set_option linter.unusedVariables false
set_option linter.unusedSimpArgs false
set_option maxRecDepth 100000
theorem R_empty {W : World} {B : Nat} {ok : Nat → Prop} (hB : B ≤ W.heap.size) (h : ok W.heap.size) : Kd.R (Kd.int .i64) 3 (W.alloc (.cells #[] 3)) B ok (.slice (some ⟨W.heap.size, 0, none⟩) 0 0) ([] : List Int) :=
  Kd.R_of_own (xs := ([] : List Int)) (own_lit W B 3 .i64 [] hB (by simp)) (fun k hk => by
    have : W.heap.size = k := by simpa [Value.ownBlock] using hk
    exact this ▸ h)
theorem R_empty2 (W : World) (o : Obj) : Kd.R (Kd.int .i64) 3 ((W.alloc o).alloc (.cells #[] 3)) W.heap.size (fun k => W.heap.size ≤ k) (.slice (some ⟨W.heap.size + 1, 0, none⟩) 0 0) ([] : List Int) := by
  have hz : (W.alloc o).heap.size = W.heap.size + 1 := World.size_alloc _ _
  have h := R_empty (W := W.alloc o) (B := W.heap.size) (ok := fun k => W.heap.size ≤ k) (by omega) (by omega)
  rwa [hz] at h
theorem C_one {W : World} {g : Nat} {x : Int} (h : W.heap[g]? = some (.cells #[.int .i64 x] 3 (0, 0))) : Kd.C (Kd.int .i64) W (some ⟨g, 0, none⟩) 1 [x] := by
  have hR : Kd.R (Kd.int .i64) 3 W 0 (fun _ => True) (.slice (some ⟨g, 0, none⟩) 1 1) [x] := Kd.R_of_own (xs := [x]) ⟨rfl, .inr ⟨g, 1, #[.int .i64 x], rfl, Nat.zero_le _, h, Nat.le_refl _, by decide, rfl, rfl⟩⟩ (fun _ _ => trivial)
  exact (Kd.R_reads' hR).2.2
set_option maxHeartbeats 8000000 in
theorem refUp_none {n : S26} {A4 : Option Addr} {c4 : Nat} {A6 : Option Addr} {c6 : Nat} {A : Option Addr} {cp : Nat} {w : World} (h : RefR n A4 c4 A6 c6 A cp [] w) :
    Calls Try.prog 34 #[refV n A4 c4 A6 c6 A cp []] w (RefM n A4 c4 A6 c6 A cp [] w false []) := by
  have hu26 := Try.underlying26
  have hu34 := Try.underlying34
  obtain ⟨hB, hb⟩ := RefB.new h
  replace h := Aside0.mk h
  replace hB := Aside0.mk hB
  replace hb := Aside0.mk hb
  go_enter Try.func34, Try.ntmps34
  go_upto_region 1 with (fail)
  obtain ⟨w1, hw1⟩ : ∃ w1, ((w.alloc (.cells #[.int .i64 n.f0, .int .i64 n.f1, .int .i64 n.f2, .int .i64 n.f3, .slice A4 n.f4.length c4, .string n.f5, .slice A6 n.f6.length c6, .slice A 0 cp] 34)).alloc (.cells #[.int .i64 0, .int .i64 0, .int .i64 0, .int .i64 0, .slice none 0 0, .string ⟨#[]⟩, .slice none 0 0, .slice none 0 0] 34)) = w1 := ⟨_, rfl⟩
  have hB1 : RefB n A4 c4 A6 c6 A cp [] w.heap.size w1 := hw1 ▸ hB.out
  have hb1 : Below w.heap.size w w1 := hw1 ▸ hb.out
  obtain ⟨x0, x1, x2, x3, x4, x5, x6, x7⟩ := hB1.cells
  obtain ⟨z0, z1, z2, z3, z4, z5, z6, z7, zf⟩ := hB1.zeros
  have q0 := zf 0
  have q1 := zf 1
  have q2 := zf 2
  have q3 := zf 3
  have q4 := zf 4
  have q5 := zf 5
  have q6 := zf 6
  have q7 := zf 7
  replace hB1 := Aside0.mk hB1
  replace hb1 := Aside0.mk hb1
  rw [hw1]
  clear hw1 hB hb zf
  simp only [List.length_nil] at x7
  go_wp2
  refine ref_ret (b := w.heap.size + 1) (w := w1) (n := n) (A4 := A4) (c4 := c4) (A6 := A6) (c6 := c6) (A := A) (cp := cp) (p := []) (by rfl) rfl rfl hB1.out.hz rfl hb1.out (by omega) h.out.lp (.inl ⟨rfl, rfl, rfl⟩)
set_option maxHeartbeats 8000000 in
theorem refUp_some {n : S26} {A4 : Option Addr} {c4 : Nat} {A6 : Option Addr} {c6 : Nat} {A : Option Addr} {cp : Nat} {q : List Int} {i : Int} {w : World} (h : RefR n A4 c4 A6 c6 A cp (q ++ [i]) w) (hl : q.length < 1000000) :
    Calls Try.prog 34 #[refV n A4 c4 A6 c6 A cp (q ++ [i])] w (RefM n A4 c4 A6 c6 A cp (q ++ [i]) w true q) := by
  have hu26 := Try.underlying26
  have hu34 := Try.underlying34
  obtain ⟨hB, hb⟩ := RefB.new h
  have hgq : Kd.C (Kd.int .i64) w A q.length q := by
    have h1 := Kd.C_take (m := q.length) h.gp (by simp)
    rwa [List.take_left' rfl] at h1
  have hlp := h.lp
  obtain ⟨L, hL⟩ : ∃ L, (q ++ [i]).length = L := ⟨_, rfl⟩
  have hLq : L = q.length + 1 := by rw [← hL]; simp
  obtain ⟨w1, hw1⟩ : ∃ w1, ((w.alloc (.cells #[.int .i64 n.f0, .int .i64 n.f1, .int .i64 n.f2, .int .i64 n.f3, .slice A4 n.f4.length c4, .string n.f5, .slice A6 n.f6.length c6, .slice A (q ++ [i]).length cp] 34)).alloc (.cells #[.int .i64 0, .int .i64 0, .int .i64 0, .int .i64 0, .slice none 0 0, .string ⟨#[]⟩, .slice none 0 0, .slice none 0 0] 34)) = w1 := ⟨_, rfl⟩
  have hB1 : RefB n A4 c4 A6 c6 A cp (q ++ [i]) w.heap.size w1 := hw1 ▸ hB
  have hb1 : Below w.heap.size w w1 := hw1 ▸ hb
  obtain ⟨x0, x1, x2, x3, x4, x5, x6, x7⟩ := hB1.cells
  obtain ⟨z0, z1, z2, z3, z4, z5, z6, z7, zf⟩ := hB1.zeros
  have hgl : w.heap.size < w1.heap.size := World.block_lt_of_cell? _ _ x0
  have hzl : w.heap.size + 1 ≤ w1.heap.size := Nat.le_of_lt (blk_lt hB1.hz)
  unfold refV
  rw [hL] at hw1 x7 hlp ⊢
  have hne : ¬ L = 0 := by omega
  have hd0 : decide ((L : Int) = 0) = false := decide_eq_false (by omega)
  have hd1 : decide (L = 0) = false := decide_eq_false hne
  have hwr : IntKind.i64.wrap ((L : Int) - 1) = (q.length : Int) := by rw [IntKind.wrap_i64]; omega
  have b0 : 0 ≤ (q.length : Int) := by omega
  have b1 : (q.length : Int) ≤ (cp : Int) := by omega
  have S0 : Below (w.heap.size + 1) w1 w1 := Below.refl _ _
  have hSof : ∀ w', Below (w.heap.size + 1) w1 w' → (Below (w.heap.size + 1) w1 w' ∧ w'.cell? ⟨w.heap.size, 0, none⟩ = some (.int .i64 n.f0) ∧ w'.cell? ⟨w.heap.size, 1, none⟩ = some (.int .i64 n.f1) ∧ w'.cell? ⟨w.heap.size, 2, none⟩ = some (.int .i64 n.f2) ∧ w'.cell? ⟨w.heap.size, 3, none⟩ = some (.int .i64 n.f3) ∧ w'.cell? ⟨w.heap.size, 4, none⟩ = some (.slice A4 n.f4.length c4) ∧ w'.cell? ⟨w.heap.size, 5, none⟩ = some (.string n.f5) ∧ w'.cell? ⟨w.heap.size, 6, none⟩ = some (.slice A6 n.f6.length c6) ∧ w'.cell? ⟨w.heap.size, 7, none⟩ = some (.slice A L cp)) := fun w' hb => ⟨hb, (hb.cell (show w.heap.size < w.heap.size + 1 by omega)).trans x0, (hb.cell (show w.heap.size < w.heap.size + 1 by omega)).trans x1, (hb.cell (show w.heap.size < w.heap.size + 1 by omega)).trans x2, (hb.cell (show w.heap.size < w.heap.size + 1 by omega)).trans x3, (hb.cell (show w.heap.size < w.heap.size + 1 by omega)).trans x4, (hb.cell (show w.heap.size < w.heap.size + 1 by omega)).trans x5, (hb.cell (show w.heap.size < w.heap.size + 1 by omega)).trans x6, (hb.cell (show w.heap.size < w.heap.size + 1 by omega)).trans x7⟩
  have LR : w.heap.size + 1 ≤ w.heap.size + 1 := Nat.le_refl _
  have hle1 : w.heap.size ≤ w1.heap.size := hb1.size
  replace h := Aside0.mk h
  replace hB1 := Aside0.mk hB1
  replace hb1 := Aside0.mk hb1
  replace hgq := Aside0.mk hgq
  replace hSof := Aside0.mk hSof
  replace hLq := Aside0.mk hLq
  replace hL := Aside0.mk hL
  clear hB hb z0 z1 z2 z3 z4 z5 z6 z7 zf
  go_enter Try.func34, Try.ntmps34
  go_upto_region 3 with (fail)
  try rw [hw1]
  go_region_held3 (fun w' => Below (w.heap.size + 1) w1 w' ∧ w'.cell? ⟨w.heap.size, 0, none⟩ = some (.int .i64 n.f0) ∧ w'.cell? ⟨w.heap.size, 1, none⟩ = some (.int .i64 n.f1) ∧ w'.cell? ⟨w.heap.size, 2, none⟩ = some (.int .i64 n.f2) ∧ w'.cell? ⟨w.heap.size, 3, none⟩ = some (.int .i64 n.f3) ∧ w'.cell? ⟨w.heap.size, 4, none⟩ = some (.slice A4 n.f4.length c4) ∧ w'.cell? ⟨w.heap.size, 5, none⟩ = some (.string n.f5) ∧ w'.cell? ⟨w.heap.size, 6, none⟩ = some (.slice A6 n.f6.length c6) ∧ w'.cell? ⟨w.heap.size, 7, none⟩ = some (.slice A L cp))
    ((refine hSof.out _ ?_; (repeat (refine Below.setCell ?_ (by exact Nat.le_refl _) _)); (first | (with_reducible exact S2) | (with_reducible exact S0) | (refine Below.mono (show Below w1.heap.size w1 _ from ?_) hzl; repeat (first | (with_reducible exact Below.refl _ _) | (with_reducible refine below_drew ?_) | (with_reducible refine below_alloc ?_ _))))))
    ((refine Kd.R_append_rows_step (Kd.int .i64) (w0 := w1) w1.heap.size (by rfl) (.tmp 11) (.tmp 18) 32 3 (.int .i64 0) 8 rfl Try.underlying32 info3 rfl (by decide) (by omega) (.slice (some ⟨w1.heap.size, 0, none⟩) 0 0) ([] : List Int) q A q.length _ (fun k => w1.heap.size ≤ k) (fun _ => False) rfl rfl (R_empty (W := w1.drew) (Nat.le_refl _) (Nat.le_refl _)) (Kd.C_below hgq.out (below_step hb1.out (below_alloc (below_drew (Below.refl w1.heap.size w1)) (.cells #[] 3)))) (fun _ _ h => h) (fun _ h => h.elim) (fun k hk => Nat.le_trans ((below_alloc (below_drew (Below.refl w1.heap.size w1)) (.cells #[] 3))).size hk) (below_alloc (below_drew (Below.refl w1.heap.size w1)) (.cells #[] 3)) ((below_alloc (below_drew (Below.refl w1.heap.size w1)) (.cells #[] 3))).size (by simp only [List.length_nil]; omega) ?_; intro v1 w5 ho hb hg hat; rw [List.nil_append] at ho; have S2 := hb.mono (show w.heap.size + 1 ≤ w1.heap.size from hzl); obtain ⟨A', c', e'⟩ := Kd.R_slice ho; subst e'; have hz5 := blk_below (Aside0.out hB1).hz hb; obtain ⟨y0, y1, y2, y3, y4, y5, y6, y7⟩ := (⟨(blk_cell hz5 0).trans rfl, (blk_cell hz5 1).trans rfl, (blk_cell hz5 2).trans rfl, (blk_cell hz5 3).trans rfl, (blk_cell hz5 4).trans rfl, (blk_cell hz5 5).trans rfl, (blk_cell hz5 6).trans rfl, (blk_cell hz5 7).trans rfl⟩ : _ ∧ _ ∧ _ ∧ _ ∧ _ ∧ _ ∧ _ ∧ _); have q0 := blk_frozen hz5 0; have q1 := blk_frozen hz5 1; have q2 := blk_frozen hz5 2; have q3 := blk_frozen hz5 3; have q4 := blk_frozen hz5 4; have q5 := blk_frozen hz5 5; have q6 := blk_frozen hz5 6; have q7 := blk_frozen hz5 7; replace ho := Aside0.mk ho; replace hb := Aside0.mk hb; clear hg hat))
  rename_i hHeld
  go_wp2
  refine ref_ret (b := w.heap.size + 1) (w := w5) (n := n) (A4 := A4) (c4 := c4) (A6 := A6) (c6 := c6) (A := A') (cp := c') (p := q) (by rfl) rfl rfl hz5 rfl (below_step hb1.out hb.out) (by omega) (Kd.R_reads' ho.out).2.1 (.inr (Kd.F_mono (Kd.R_F ho.out) (fun k hk => by have := blk_lt hB1.out.hz; omega)))
theorem refNode_calls {n y : S26} {A4 : Option Addr} {c4 : Nat} {A6 : Option Addr} {c6 : Nat} {A : Option Addr} {cp : Nat} {p : List Int} {P B : List (List Int)} {w : World} (h : RefR n A4 c4 A6 c6 A cp p w) (hP : PlaceT n P p B y) :
    Calls Try.prog 18 #[refV n A4 c4 A6 c6 A cp p] w fun e w' => ∃ B4 d4 B6 d6, e = .returned (nodeV y B4 d4 B6 d6) ∧ y.f4.length ≤ d4 ∧ Kd.C k76 w' B4 y.f4.length y.f4 ∧ y.f6.length ≤ d6 ∧ Kd.C k26 w' B6 y.f6.length y.f6 ∧ Below w.heap.size w w' := by
  obtain ⟨k, hk⟩ := (refNode_ev hP).rounds
  refine (arboristref45_Node.calls k n.f0 n.f1 n.f2 n.f3 (fun k_ => k_ < w.heap.size) A4 c4 n.f4 n.f5 (fun k_ => k_ < w.heap.size) A6 c6 n.f6 A cp p y.f0 y.f1 y.f2 y.f3 y.f4 y.f5 y.f6 w (Kd.V_mk h.l4 (Kd.C_F k76_heap h.g4)) (Kd.V_mk h.l6 (Kd.C_F k26_heap h.g6)) h.gp h.lp hk).mono ?_
  rintro e w' ⟨v4, v6, rfl, r4, r6, hb⟩
  obtain ⟨B4, d4, rfl, m4, f4⟩ := r4
  obtain ⟨B6, d6, rfl, m6, f6⟩ := r6
  exact ⟨B4, d4, B6, d6, rfl, m4, Kd.F_now f4, m6, Kd.F_now f6, hb⟩
set_option maxHeartbeats 8000000 in
theorem refDown_neg {n : S26} {A4 : Option Addr} {c4 : Nat} {A6 : Option Addr} {c6 : Nat} {A : Option Addr} {cp : Nat} {p : List Int} {w : World} (h : RefR n A4 c4 A6 c6 A cp p w) {i : Int} (hi : i < 0) :
    Calls Try.prog 33 #[refV n A4 c4 A6 c6 A cp p, .int .i64 i] w (RefM n A4 c4 A6 c6 A cp p w false p) := by
  have hu26 := Try.underlying26
  have hu34 := Try.underlying34
  obtain ⟨hB, hb⟩ := RefB.new h
  have hlp := h.lp
  obtain ⟨L, hL⟩ : ∃ L, p.length = L := ⟨_, rfl⟩
  obtain ⟨w1, hw1⟩ : ∃ w1, ((w.alloc (.cells #[.int .i64 n.f0, .int .i64 n.f1, .int .i64 n.f2, .int .i64 n.f3, .slice A4 n.f4.length c4, .string n.f5, .slice A6 n.f6.length c6, .slice A p.length cp] 34)).alloc (.cells #[.int .i64 0, .int .i64 0, .int .i64 0, .int .i64 0, .slice none 0 0, .string ⟨#[]⟩, .slice none 0 0, .slice none 0 0] 34)) = w1 := ⟨_, rfl⟩
  have hB1 : RefB n A4 c4 A6 c6 A cp p w.heap.size w1 := hw1 ▸ hB
  have hb1 : Below w.heap.size w w1 := hw1 ▸ hb
  obtain ⟨x0, x1, x2, x3, x4, x5, x6, x7⟩ := hB1.cells
  have hzl : w.heap.size + 1 ≤ w1.heap.size := Nat.le_of_lt (blk_lt hB1.hz)
  unfold refV
  rw [hL] at hw1 x7 hlp ⊢
  replace h := Aside0.mk h
  replace hB1 := Aside0.mk hB1
  replace hb1 := Aside0.mk hb1
  replace hL := Aside0.mk hL
  clear hB hb
  have hd := decide_eq_true hi
  obtain ⟨z0, z1, z2, z3, z4, z5, z6, z7, zf⟩ := hB1.out.zeros
  have q0 := zf 0
  have q1 := zf 1
  have q2 := zf 2
  have q3 := zf 3
  have q4 := zf 4
  have q5 := zf 5
  have q6 := zf 6
  have q7 := zf 7
  clear hi zf
  go_enter Try.func33, Try.ntmps33
  go_wp2
  refine ref_ret (b := w.heap.size + 1) (w := w1) (n := n) (A4 := A4) (c4 := c4) (A6 := A6) (c6 := c6) (A := A) (cp := cp) (p := p) (by rfl) rfl rfl hB1.out.hz (by unfold setRef; rw [hL.out]) hb1.out (by omega) h.out.lp (.inl ⟨rfl, rfl, rfl⟩)
set_option maxHeartbeats 8000000 in
theorem refDown_far {n : S26} {A4 : Option Addr} {c4 : Nat} {A6 : Option Addr} {c6 : Nat} {A : Option Addr} {cp : Nat} {p : List Int} {w : World} {y : S26} {P B : List (List Int)} (h : RefR n A4 c4 A6 c6 A cp p w) (hP : PlaceT n P p B y) {i : Int} (h0 : 0 ≤ i) (hi : (y.f6.length : Int) ≤ i) :
    Calls Try.prog 33 #[refV n A4 c4 A6 c6 A cp p, .int .i64 i] w (RefM n A4 c4 A6 c6 A cp p w false p) := by
  have hu26 := Try.underlying26
  have hu34 := Try.underlying34
  obtain ⟨hB, hb⟩ := RefB.new h
  have hlp := h.lp
  obtain ⟨L, hL⟩ : ∃ L, p.length = L := ⟨_, rfl⟩
  obtain ⟨w1, hw1⟩ : ∃ w1, ((w.alloc (.cells #[.int .i64 n.f0, .int .i64 n.f1, .int .i64 n.f2, .int .i64 n.f3, .slice A4 n.f4.length c4, .string n.f5, .slice A6 n.f6.length c6, .slice A p.length cp] 34)).alloc (.cells #[.int .i64 0, .int .i64 0, .int .i64 0, .int .i64 0, .slice none 0 0, .string ⟨#[]⟩, .slice none 0 0, .slice none 0 0] 34)) = w1 := ⟨_, rfl⟩
  have hB1 : RefB n A4 c4 A6 c6 A cp p w.heap.size w1 := hw1 ▸ hB
  have hb1 : Below w.heap.size w w1 := hw1 ▸ hb
  obtain ⟨x0, x1, x2, x3, x4, x5, x6, x7⟩ := hB1.cells
  have hzl : w.heap.size + 1 ≤ w1.heap.size := Nat.le_of_lt (blk_lt hB1.hz)
  unfold refV
  rw [hL] at hw1 x7 hlp ⊢
  replace h := Aside0.mk h
  replace hB1 := Aside0.mk hB1
  replace hb1 := Aside0.mk hb1
  replace hL := Aside0.mk hL
  clear hB hb
  have hd := decide_eq_false (show ¬ i < 0 by omega)
  have hfd := field26_6
  have hN := refNode_calls hB1.out.r hP
  obtain ⟨K, hK⟩ : ∃ K, y.f6.length = K := ⟨_, rfl⟩
  unfold nodeV refV at hN
  rw [hL.out, hK] at hN
  rw [hK] at hi
  have he := decide_eq_true hi
  have he2 : decide (i ≥ (K : Int)) = true := he
  replace hN := Aside0.mk hN
  replace hK := Aside0.mk hK
  replace hP := Aside0.mk hP
  clear hi h0
  go_enter Try.func33, Try.ntmps33
  go_upto_region 2 with (go_at_call 18; refine hN.out.mono ?_; rintro e w3 ⟨B4, d4, B6, d6, rfl, m4, r4, m6, r6, hb3⟩; have hB3 := hB1.out.below hb3; obtain ⟨x0, x1, x2, x3, x4, x5, x6, x7⟩ := RefB.cells hB3; rw [hL.out] at x7; obtain ⟨z0, z1, z2, z3, z4, z5, z6, z7, zf⟩ := RefB.zeros hB3; have q0 := zf 0; have q1 := zf 1; have q2 := zf 2; have q3 := zf 3; have q4 := zf 4; have q5 := zf 5; have q6 := zf 6; have q7 := zf 7; clear zf; have hb13 := below_step hb1.out hb3; replace hb13 := Aside0.mk hb13; replace hB3 := Aside0.mk hB3; clear m4 r4 m6 r6 hb3)
  go_wp2
  refine ref_ret (b := w.heap.size + 1) (w := w3) (n := n) (A4 := A4) (c4 := c4) (A6 := A6) (c6 := c6) (A := A) (cp := cp) (p := p) (by rfl) rfl rfl hB3.out.hz (by unfold setRef; rw [hL.out]) hb13.out (by omega) h.out.lp (.inl ⟨rfl, rfl, rfl⟩)
set_option maxHeartbeats 8000000 in
theorem refDown_true {n : S26} {A4 : Option Addr} {c4 : Nat} {A6 : Option Addr} {c6 : Nat} {A : Option Addr} {cp : Nat} {p : List Int} {w : World} {y : S26} {P B : List (List Int)} (h : RefR n A4 c4 A6 c6 A cp p w) (hP : PlaceT n P p B y) {i : Int} (h0 : 0 ≤ i) (hi : i < (y.f6.length : Int)) (hpl : p.length < 1000000) :
    Calls Try.prog 33 #[refV n A4 c4 A6 c6 A cp p, .int .i64 i] w (RefM n A4 c4 A6 c6 A cp p w true (p ++ [i])) := by
  have hu26 := Try.underlying26
  have hu34 := Try.underlying34
  obtain ⟨hB, hb⟩ := RefB.new h
  have hlp := h.lp
  obtain ⟨L, hL⟩ : ∃ L, p.length = L := ⟨_, rfl⟩
  obtain ⟨w1, hw1⟩ : ∃ w1, ((w.alloc (.cells #[.int .i64 n.f0, .int .i64 n.f1, .int .i64 n.f2, .int .i64 n.f3, .slice A4 n.f4.length c4, .string n.f5, .slice A6 n.f6.length c6, .slice A p.length cp] 34)).alloc (.cells #[.int .i64 0, .int .i64 0, .int .i64 0, .int .i64 0, .slice none 0 0, .string ⟨#[]⟩, .slice none 0 0, .slice none 0 0] 34)) = w1 := ⟨_, rfl⟩
  have hB1 : RefB n A4 c4 A6 c6 A cp p w.heap.size w1 := hw1 ▸ hB
  have hb1 : Below w.heap.size w w1 := hw1 ▸ hb
  obtain ⟨x0, x1, x2, x3, x4, x5, x6, x7⟩ := hB1.cells
  have hzl : w.heap.size + 1 ≤ w1.heap.size := Nat.le_of_lt (blk_lt hB1.hz)
  unfold refV
  rw [hL] at hw1 x7 hlp hpl ⊢
  replace h := Aside0.mk h
  replace hB1 := Aside0.mk hB1
  replace hb1 := Aside0.mk hb1
  replace hL := Aside0.mk hL
  clear hB hb
  have hd := decide_eq_false (show ¬ i < 0 by omega)
  have hfd := field26_6
  have hN := refNode_calls hB1.out.r hP
  obtain ⟨K, hK⟩ : ∃ K, y.f6.length = K := ⟨_, rfl⟩
  unfold nodeV refV at hN
  rw [hL.out, hK] at hN
  rw [hK] at hi
  have he := decide_eq_false (show ¬ (K : Int) ≤ i by omega)
  have he2 : decide (i ≥ (K : Int)) = false := he
  replace hN := Aside0.mk hN
  replace hK := Aside0.mk hK
  replace hP := Aside0.mk hP
  have hpL : L < 1000000 := by omega
  clear hi h0 hpl
  go_enter Try.func33, Try.ntmps33
  go_upto_region 3 with (go_at_call 18; refine hN.out.mono ?_; rintro e w3 ⟨B4, d4, B6, d6, rfl, m4, r4, m6, r6, hb3⟩; have hB3 := hB1.out.below hb3; obtain ⟨x0, x1, x2, x3, x4, x5, x6, x7⟩ := RefB.cells hB3; rw [hL.out] at x7; obtain ⟨z0, z1, z2, z3, z4, z5, z6, z7, zf⟩ := RefB.zeros hB3; have q0 := zf 0; have q1 := zf 1; have q2 := zf 2; have q3 := zf 3; have q4 := zf 4; have q5 := zf 5; have q6 := zf 6; have q7 := zf 7; clear zf; have hb13 := below_step hb1.out hb3; replace hb13 := Aside0.mk hb13; replace hB3 := Aside0.mk hB3; clear m4 r4 m6 r6 hb3)
  have hzl3 : w.heap.size + 1 ≤ w3.heap.size := Nat.le_of_lt (blk_lt hB3.out.hz)
  have S0 : Below (w.heap.size + 1) w3 w3 := Below.refl _ _
  have hSof : ∀ w', Below (w.heap.size + 1) w3 w' → (Below (w.heap.size + 1) w3 w' ∧ w'.cell? ⟨w.heap.size, 0, none⟩ = some (.int .i64 n.f0) ∧ w'.cell? ⟨w.heap.size, 1, none⟩ = some (.int .i64 n.f1) ∧ w'.cell? ⟨w.heap.size, 2, none⟩ = some (.int .i64 n.f2) ∧ w'.cell? ⟨w.heap.size, 3, none⟩ = some (.int .i64 n.f3) ∧ w'.cell? ⟨w.heap.size, 4, none⟩ = some (.slice A4 n.f4.length c4) ∧ w'.cell? ⟨w.heap.size, 5, none⟩ = some (.string n.f5) ∧ w'.cell? ⟨w.heap.size, 6, none⟩ = some (.slice A6 n.f6.length c6) ∧ w'.cell? ⟨w.heap.size, 7, none⟩ = some (.slice A L cp)) := fun w' hb => ⟨hb, (hb.cell (show w.heap.size < w.heap.size + 1 by omega)).trans x0, (hb.cell (show w.heap.size < w.heap.size + 1 by omega)).trans x1, (hb.cell (show w.heap.size < w.heap.size + 1 by omega)).trans x2, (hb.cell (show w.heap.size < w.heap.size + 1 by omega)).trans x3, (hb.cell (show w.heap.size < w.heap.size + 1 by omega)).trans x4, (hb.cell (show w.heap.size < w.heap.size + 1 by omega)).trans x5, (hb.cell (show w.heap.size < w.heap.size + 1 by omega)).trans x6, (hb.cell (show w.heap.size < w.heap.size + 1 by omega)).trans x7⟩
  replace hSof := Aside0.mk hSof
  replace hzl3 := Aside0.mk hzl3
  clear z0 z1 z2 z3 z4 z5 z6 z7 q0 q1 q2 q3 q4 q5 q6 q7
  go_region_held3 (fun w' => Below (w.heap.size + 1) w3 w' ∧ w'.cell? ⟨w.heap.size, 0, none⟩ = some (.int .i64 n.f0) ∧ w'.cell? ⟨w.heap.size, 1, none⟩ = some (.int .i64 n.f1) ∧ w'.cell? ⟨w.heap.size, 2, none⟩ = some (.int .i64 n.f2) ∧ w'.cell? ⟨w.heap.size, 3, none⟩ = some (.int .i64 n.f3) ∧ w'.cell? ⟨w.heap.size, 4, none⟩ = some (.slice A4 n.f4.length c4) ∧ w'.cell? ⟨w.heap.size, 5, none⟩ = some (.string n.f5) ∧ w'.cell? ⟨w.heap.size, 6, none⟩ = some (.slice A6 n.f6.length c6) ∧ w'.cell? ⟨w.heap.size, 7, none⟩ = some (.slice A L cp))
    ((refine hSof.out _ ?_; (repeat (refine Below.setCell ?_ (by exact Nat.le_refl _) _)); (first | (with_reducible exact S3) | (with_reducible exact S2) | (with_reducible exact S0) | (refine Below.mono (show Below w3.heap.size w3 _ from ?_) hzl3.out; repeat (first | (with_reducible exact S2b) | (with_reducible exact Below.refl _ _) | (with_reducible refine below_drew ?_) | (with_reducible refine below_alloc ?_ _))))))
    ((first
      | (refine Kd.R_append_rows_step (Kd.int .i64) (w0 := w3) w3.heap.size (by rfl) (.tmp 22) (.tmp 24) 32 3 (.int .i64 0) 8 rfl Try.underlying32 info3 rfl (by decide) (by omega) (.slice A5 L c5) p [i] _ 1 1 (fun k => w3.heap.size ≤ k) (fun _ => False) rfl rfl (Kd.R_alloc ho.out _) (C_one (blk_new w5 (.cells #[.int .i64 i] 3))) (fun _ _ h => h) (fun _ h => h.elim) (fun k hk => Nat.le_trans ((below_alloc hb.out (.cells #[.int .i64 i] 3))).size hk) (below_alloc hb.out (.cells #[.int .i64 i] 3)) ((below_alloc hb.out (.cells #[.int .i64 i] 3))).size (by rw [hL.out]; omega) ?_; intro v7 w7 ho7 hb7 hg hat; obtain ⟨A7, c7, e7⟩ := Kd.R_slice ho7; subst e7; have S3 := hb7.mono hzl3.out; have hz7 := blk_below hB3.out.hz hb7; obtain ⟨y0, y1, y2, y3, y4, y5, y6, y7⟩ := (⟨(blk_cell hz7 0).trans rfl, (blk_cell hz7 1).trans rfl, (blk_cell hz7 2).trans rfl, (blk_cell hz7 3).trans rfl, (blk_cell hz7 4).trans rfl, (blk_cell hz7 5).trans rfl, (blk_cell hz7 6).trans rfl, (blk_cell hz7 7).trans rfl⟩ : _ ∧ _ ∧ _ ∧ _ ∧ _ ∧ _ ∧ _ ∧ _); have u0 := blk_frozen hz7 0; have u1 := blk_frozen hz7 1; have u2 := blk_frozen hz7 2; have u3 := blk_frozen hz7 3; have u4 := blk_frozen hz7 4; have u5 := blk_frozen hz7 5; have u6 := blk_frozen hz7 6; have u7 := blk_frozen hz7 7; obtain ⟨M, hM⟩ : ∃ M, (p ++ [i]).length = M := ⟨_, rfl⟩; replace hM := Aside0.mk hM; replace ho7 := Aside0.mk ho7; replace hb7 := Aside0.mk hb7; clear hg hat)
      | (refine Kd.R_append_rows_step (Kd.int .i64) (w0 := w3) w3.heap.size (by rfl) (.tmp 22) (.tmp 24) 32 3 (.int .i64 0) 8 rfl Try.underlying32 info3 rfl (by decide) (by omega) (.slice A5 L c5) p [i] _ 1 1 (fun k => w3.heap.size ≤ k) (fun _ => False) rfl rfl ho.out (C_one hi5.out) (fun _ _ h => h) (fun _ h => h.elim) (fun k hk => Nat.le_trans (hb.out).size hk) hb.out (hb.out).size (by rw [hL.out]; omega) ?_; intro v7 w7 ho7 hb7 hg hat; obtain ⟨A7, c7, e7⟩ := Kd.R_slice ho7; subst e7; have S3 := hb7.mono hzl3.out; have hz7 := blk_below hB3.out.hz hb7; obtain ⟨y0, y1, y2, y3, y4, y5, y6, y7⟩ := (⟨(blk_cell hz7 0).trans rfl, (blk_cell hz7 1).trans rfl, (blk_cell hz7 2).trans rfl, (blk_cell hz7 3).trans rfl, (blk_cell hz7 4).trans rfl, (blk_cell hz7 5).trans rfl, (blk_cell hz7 6).trans rfl, (blk_cell hz7 7).trans rfl⟩ : _ ∧ _ ∧ _ ∧ _ ∧ _ ∧ _ ∧ _ ∧ _); have u0 := blk_frozen hz7 0; have u1 := blk_frozen hz7 1; have u2 := blk_frozen hz7 2; have u3 := blk_frozen hz7 3; have u4 := blk_frozen hz7 4; have u5 := blk_frozen hz7 5; have u6 := blk_frozen hz7 6; have u7 := blk_frozen hz7 7; obtain ⟨M, hM⟩ : ∃ M, (p ++ [i]).length = M := ⟨_, rfl⟩; replace hM := Aside0.mk hM; replace ho7 := Aside0.mk ho7; replace hb7 := Aside0.mk hb7; clear hg hat)
      | (refine Kd.R_append_rows_step (Kd.int .i64) (w0 := w3) w3.heap.size (by rfl) (.tmp 19) (.tmp 21) 32 3 (.int .i64 0) 8 rfl Try.underlying32 info3 rfl (by decide) (by omega) (.slice (some ⟨w3.heap.size + 1, 0, none⟩) 0 0) ([] : List Int) p A L _ (fun k => w3.heap.size ≤ k) (fun _ => False) rfl rfl (R_empty2 w3.drew (.cells #[.int .i64 i] 3)) (by rw [← hL.out]; exact Kd.C_below h.out.gp (below_step hb13.out (below_alloc (below_alloc (below_drew (Below.refl w3.heap.size w3)) (.cells #[.int .i64 i] 3)) (.cells #[] 3)))) (fun _ _ h => h) (fun _ h => h.elim) (fun k hk => Nat.le_trans ((below_alloc (below_alloc (below_drew (Below.refl w3.heap.size w3)) (.cells #[.int .i64 i] 3)) (.cells #[] 3))).size hk) (below_alloc (below_alloc (below_drew (Below.refl w3.heap.size w3)) (.cells #[.int .i64 i] 3)) (.cells #[] 3)) ((below_alloc (below_alloc (below_drew (Below.refl w3.heap.size w3)) (.cells #[.int .i64 i] 3)) (.cells #[] 3))).size (by simp only [List.length_nil]; omega) ?_; intro v5 w5 ho hb hg hat; rw [List.nil_append] at ho; obtain ⟨A5, c5, e5⟩ := Kd.R_slice ho; rw [hL.out] at e5; subst e5; have hi5 : w5.heap[w3.heap.size]? = some (.cells #[.int .i64 i] 3 (0, 0)) := blk_grown (blk_alloc (blk_new w3.drew (.cells #[.int .i64 i] 3)) (.cells #[] 3)) hg (by simp [Value.ownBlock]); replace hi5 := Aside0.mk hi5;  have S2b := hb; have S2 := hb.mono hzl3.out; replace ho := Aside0.mk ho; replace hb := Aside0.mk hb; clear hg hat)
      | (refine Kd.R_append_rows_step (Kd.int .i64) (w0 := w3) w3.heap.size (by rfl) (.tmp 19) (.tmp 21) 32 3 (.int .i64 0) 8 rfl Try.underlying32 info3 rfl (by decide) (by omega) (.slice (some ⟨w3.heap.size, 0, none⟩) 0 0) ([] : List Int) p A L _ (fun k => w3.heap.size ≤ k) (fun _ => False) rfl rfl (Kd.R_alloc (R_empty (W := w3.drew) (Nat.le_refl _) (Nat.le_refl _)) _) (by rw [← hL.out]; exact Kd.C_below h.out.gp (below_step hb13.out (below_alloc (below_alloc (below_drew (Below.refl w3.heap.size w3)) (.cells #[] 3)) (.cells #[.int .i64 i] 3)))) (fun _ _ h => h) (fun _ h => h.elim) (fun k hk => Nat.le_trans ((below_alloc (below_alloc (below_drew (Below.refl w3.heap.size w3)) (.cells #[] 3)) (.cells #[.int .i64 i] 3))).size hk) (below_alloc (below_alloc (below_drew (Below.refl w3.heap.size w3)) (.cells #[] 3)) (.cells #[.int .i64 i] 3)) ((below_alloc (below_alloc (below_drew (Below.refl w3.heap.size w3)) (.cells #[] 3)) (.cells #[.int .i64 i] 3))).size (by simp only [List.length_nil]; omega) ?_; intro v5 w5 ho hb hg hat; rw [List.nil_append] at ho; obtain ⟨A5, c5, e5⟩ := Kd.R_slice ho; rw [hL.out] at e5; subst e5; have hi5 : w5.heap[w3.heap.size + 1]? = some (.cells #[.int .i64 i] 3 (0, 0)) := blk_grown (new_at (w3.drew.alloc (.cells #[] 3)) (.cells #[.int .i64 i] 3) (World.size_alloc _ _).symm) hg (by simp [Value.ownBlock]); replace hi5 := Aside0.mk hi5;  have S2b := hb; have S2 := hb.mono hzl3.out; replace ho := Aside0.mk ho; replace hb := Aside0.mk hb; clear hg hat)
      | (refine Kd.R_append_rows_step (Kd.int .i64) (w0 := w3) w3.heap.size (by rfl) (.tmp 19) (.tmp 21) 32 3 (.int .i64 0) 8 rfl Try.underlying32 info3 rfl (by decide) (by omega) (.slice (some ⟨w3.heap.size, 0, none⟩) 0 0) ([] : List Int) p A L _ (fun k => w3.heap.size ≤ k) (fun _ => False) rfl rfl (R_empty (W := w3.drew) (Nat.le_refl _) (Nat.le_refl _)) (by rw [← hL.out]; exact Kd.C_below h.out.gp (below_step hb13.out (below_alloc (below_drew (Below.refl w3.heap.size w3)) (.cells #[] 3)))) (fun _ _ h => h) (fun _ h => h.elim) (fun k hk => Nat.le_trans ((below_alloc (below_drew (Below.refl w3.heap.size w3)) (.cells #[] 3))).size hk) (below_alloc (below_drew (Below.refl w3.heap.size w3)) (.cells #[] 3)) ((below_alloc (below_drew (Below.refl w3.heap.size w3)) (.cells #[] 3))).size (by simp only [List.length_nil]; omega) ?_; intro v5 w5 ho hb hg hat; rw [List.nil_append] at ho; obtain ⟨A5, c5, e5⟩ := Kd.R_slice ho; rw [hL.out] at e5; subst e5;   have S2b := hb; have S2 := hb.mono hzl3.out; replace ho := Aside0.mk ho; replace hb := Aside0.mk hb; clear hg hat)
      | fail))
  all_goals
    rename_i hHeld
    go_wp2
    refine ref_ret (b := w.heap.size + 1) (w := w7) (n := n) (A4 := A4) (c4 := c4) (A6 := A6) (c6 := c6) (A := A7) (cp := c7) (p := p ++ [i]) (by rfl) rfl rfl hz7 (by unfold setRef; rw [List.length_append, List.length_singleton]) (below_step hb13.out hb7.out) (by omega) (Kd.R_reads' ho7.out).2.1 (.inr (Kd.F_mono (Kd.R_F ho7.out) (fun k hk => by have := hzl3.out; have := blk_lt hB3.out.hz; omega)))
end Go.Proofs.Ytfekpmbecoeijaa.Hand
namespace Go.Proofs.Ytfekpmbecoeijaa.Hand
open Go.RowKit Go.Proofs.YtfekpmbecoeijaaW.PrintWords Go.Proofs.YtfekpmbecoeijaaW.PrintLast Go.Proofs.YtfekpmbecoeijaaW.PrintMore Go.Proofs.Ytfekpmbecoeijaa.Q Go.Proofs.Ytfekpmbecoeijaa.RF Go.Proofs.Ytfekpmbecoeijaa.Pure
set_option linter.unusedVariables false
set_option linter.unusedSimpArgs false
set_option maxRecDepth 100000
theorem drew_set (w : World) (a : Addr) (v : Value) : (w.setCell a v).drew = w.drew.setCell a v := rfl
theorem rowF_at {w : World} {ok : Nat → Prop} {A : Option Addr} {m : Nat} {xs : List (List Int)} (h : Kd.F (Kd.slice 3 (Kd.int .i64)) w ok A m xs) (i : Int) (h0 : 0 ≤ i) (h1 : i < m) :
    ∃ ad A0 c0, A = some ad ∧ w.cell? (ad.add i.toNat) = some (.slice A0 (rd_L5 xs i).length c0) ∧ (rd_L5 xs i).length ≤ c0 ∧ Kd.F (Kd.int .i64) w ok A0 (rd_L5 xs i).length (rd_L5 xs i) ∧ ok ad.block := by
  obtain ⟨ad, c, e, hcl, hFK, hcc, hok⟩ := Kd.F_get h ([] : List Int) i h0 h1
  obtain ⟨A0, c0, e0, l0, g0⟩ := hFK w (fun _ _ _ => rfl)
  refine ⟨ad, A0, c0, e, ?_, l0, fun W' hW => ?_, hok (by show 0 < 1; omega)⟩
  · have hq := hcc 0 (.slice A0 (rd_L5 xs i).length c0) (by rw [e0]; rfl)
    have e1 : i.toNat * (Kd.slice 3 (Kd.int .i64)).sz + 0 = i.toNat := by
      show i.toNat * 1 + 0 = i.toNat
      omega
    rwa [e1] at hq
  · obtain ⟨A0', c0', e0', l0', g0'⟩ := hFK W' hW
    rw [e0] at e0'
    injection e0' with e1 _
    injection e1 with e2 _ _
    subst e2
    exact g0'
theorem refOrder_calls {n : S26} (hO : OkT n) {A4 : Option Addr} {c4 : Nat} {A6 : Option Addr} {c6 : Nat} {w : World} (l4 : n.f4.length ≤ c4) (g4 : Kd.C k76 w A4 n.f4.length n.f4) (l6 : n.f6.length ≤ c6) (g6 : Kd.C k26 w A6 n.f6.length n.f6) :
    Calls Try.prog 48 #[nodeV n A4 c4 A6 c6] w fun e w' => ∃ Ao co, e = .returned (.slice Ao (ord 100 n).length co) ∧ (ord 100 n).length ≤ co ∧ Kd.F (Kd.slice 3 (Kd.int .i64)) w' (fun k => w.heap.size ≤ k) Ao (ord 100 n).length (ord 100 n) ∧ Below w.heap.size w w' := by
  obtain ⟨k, hk⟩ := (order_ev 100 n hO.sm hO.ct (by omega)).rounds
  refine (arboristref45_Order.calls k n.f0 n.f1 n.f2 n.f3 A4 c4 n.f4 n.f5 A6 c6 n.f6 _ w g4 l4 g6 l6 hk).mono ?_
  rintro e w' ⟨v, rfl, hN, hb⟩
  obtain ⟨Ao, co, rfl⟩ := Kd.N_slice hN
  exact ⟨Ao, co, rfl, (Kd.N_reads' hN).2.1, Kd.N_F hN, hb⟩
section
variable {n y : S26} {A4 : Option Addr} {c4 : Nat} {A6 : Option Addr} {c6 : Nat} {A : Option Addr} {cp : Nat} {p : List Int} {P B : List (List Int)} {w : World}
theorem refPlace_calls (h : RefR n A4 c4 A6 c6 A cp p w) (hO : OkT n) (hP : PlaceT n P p B y) (he : ord 100 n = P ++ p :: B) :
    Calls Try.prog 39 #[refV n A4 c4 A6 c6 A cp p] w fun e w' => e = .returned (.int .i64 (P.length : Int)) ∧ Below w.heap.size w w' := by
  obtain ⟨k, hk⟩ := (place_ev hO hP he).rounds
  exact arboristref45_place.calls k n.f0 n.f1 n.f2 n.f3 A4 c4 n.f4 n.f5 A6 c6 n.f6 A cp p _ w h.g4 h.l4 h.g6 h.l6 h.gp h.lp hk
theorem refAt_calls (h : RefR n A4 c4 A6 c6 A cp p w) (hO : OkT n) (hP : PlaceT n P p B y) (he : ord 100 n = P ++ p :: B) :
    Calls Try.prog 15 #[refV n A4 c4 A6 c6 A cp p] w fun e w' => e = .returned (.int .i64 (lenL ((pre 100 n).take P.length) : Int)) ∧ Below w.heap.size w w' := by
  obtain ⟨k, hk⟩ := (refAt_ev hO hP he).rounds
  exact arboristref45_At.calls k n.f0 n.f1 n.f2 n.f3 A4 c4 n.f4 n.f5 A6 c6 n.f6 A cp p _ w h.g4 h.l4 h.g6 h.l6 h.gp h.lp hk
end
set_option maxHeartbeats 8000000 in
theorem refStep_no {n y : S26} {A4 : Option Addr} {c4 : Nat} {A6 : Option Addr} {c6 : Nat} {A : Option Addr} {cp : Nat} {p : List Int} {P B : List (List Int)} {w : World} (h : RefR n A4 c4 A6 c6 A cp p w) (hO : OkT n) (hP : PlaceT n P p B y) (he : ord 100 n = P ++ p :: B) {by_ : Int} (h0 : -1 ≤ by_) (h1 : by_ ≤ 1) (hj : (P.length : Int) + by_ < 0 ∨ ((ord 100 n).length : Int) ≤ (P.length : Int) + by_) :
    Calls Try.prog 47 #[refV n A4 c4 A6 c6 A cp p, .int .i64 by_] w (RefM n A4 c4 A6 c6 A cp p w false p) := by
  have hu26 := Try.underlying26
  have hu34 := Try.underlying34
  obtain ⟨hB, hb⟩ := RefB.new h
  have hlp := h.lp
  obtain ⟨L, hL⟩ : ∃ L, p.length = L := ⟨_, rfl⟩
  obtain ⟨w1, hw1⟩ : ∃ w1, ((w.alloc (.cells #[.int .i64 n.f0, .int .i64 n.f1, .int .i64 n.f2, .int .i64 n.f3, .slice A4 n.f4.length c4, .string n.f5, .slice A6 n.f6.length c6, .slice A p.length cp] 34)).alloc (.cells #[.int .i64 0, .int .i64 0, .int .i64 0, .int .i64 0, .slice none 0 0, .string ⟨#[]⟩, .slice none 0 0, .slice none 0 0] 34)) = w1 := ⟨_, rfl⟩
  have hB1 : RefB n A4 c4 A6 c6 A cp p w.heap.size w1 := hw1 ▸ hB
  have hb1 : Below w.heap.size w w1 := hw1 ▸ hb
  obtain ⟨x0, x1, x2, x3, x4, x5, x6, x7⟩ := hB1.cells
  unfold refV
  rw [hL] at hw1 x7 hlp ⊢
  replace h := Aside0.mk h
  replace hB1 := Aside0.mk hB1
  replace hb1 := Aside0.mk hb1
  replace hL := Aside0.mk hL
  clear hB hb
  have hOr := refOrder_calls hO hB1.out.r.l4 hB1.out.r.g4 hB1.out.r.l6 hB1.out.r.g6
  obtain ⟨J, hJ⟩ : ∃ J, P.length = J := ⟨_, rfl⟩
  obtain ⟨K, hK⟩ : ∃ K, (ord 100 n).length = K := ⟨_, rfl⟩
  have hKc : K = cnt 100 n := by rw [← hK, ord_len 100 n hO.sm, pre_len 100 n hO.sm]
  have hct := hO.ct
  have hPl := hP.len
  rw [hJ, hK] at hj
  rw [hK] at hOr
  obtain ⟨j, hjj⟩ : ∃ j, (J : Int) + by_ = j := ⟨_, rfl⟩
  have hwr : IntKind.i64.wrap ((J : Int) + by_) = j := by rw [IntKind.wrap_i64]; omega
  rw [hjj] at hj
  replace hOr := Aside0.mk hOr
  replace hO := Aside0.mk hO
  replace hP := Aside0.mk hP
  replace he := Aside0.mk he
  replace hJ := Aside0.mk hJ
  replace hK := Aside0.mk hK
  clear hKc hct hPl h0 h1 hjj
  go_enter Try.func47, Try.ntmps47
  go_upto_region 3 with (first
    | (go_at_call 39; refine hpl.out.mono ?_; rintro e w5 ⟨rfl, hb5⟩; have hB5 := hB3.out.below hb5; have hb15 := below_step hb13.out hb5; obtain ⟨x0, x1, x2, x3, x4, x5, x6, x7⟩ := RefB.cells hB5; rw [hL.out] at x7; obtain ⟨z0, z1, z2, z3, z4, z5, z6, z7, zf⟩ := RefB.zeros hB5; have q0 := zf 0; have q1 := zf 1; have q2 := zf 2; have q3 := zf 3; have q4 := zf 4; have q5 := zf 5; have q6 := zf 6; have q7 := zf 7; clear zf; replace hB5 := Aside0.mk hB5; replace hb15 := Aside0.mk hb15; clear hb5)
    | (go_at_call 48; refine hOr.out.mono ?_; rintro e w3 ⟨Ao, co, rfl, lo, Fo, hb3⟩; have hB3 := hB1.out.below hb3; obtain ⟨x0, x1, x2, x3, x4, x5, x6, x7⟩ := RefB.cells hB3; rw [hL.out] at x7; have hb13 := below_step hb1.out hb3; have hpl := refPlace_calls hB3.r hO.out hP.out he.out; unfold refV at hpl; rw [hL.out, hJ.out] at hpl; replace hpl := Aside0.mk hpl; replace hb13 := Aside0.mk hb13; replace hB3 := Aside0.mk hB3; replace Fo := Aside0.mk Fo; clear hb3))
  by_cases hn : j < 0
  · have hd := decide_eq_true hn
    clear hj hn
    go_wp2
    refine ref_ret (b := w.heap.size + 1) (w := w5) (n := n) (A4 := A4) (c4 := c4) (A6 := A6) (c6 := c6) (A := A) (cp := cp) (p := p) (by rfl) rfl rfl hB5.out.hz (by unfold setRef; rw [hL.out]) hb15.out (by omega) h.out.lp (.inl ⟨rfl, rfl, rfl⟩)
  · have hd := decide_eq_false hn
    have hge := decide_eq_true (show (K : Int) ≤ j from hj.elim (fun h => absurd h hn) id)
    have hge2 : decide (j ≥ (K : Int)) = true := hge
    clear hj hn
    go_wp2
    refine ref_ret (b := w.heap.size + 1) (w := w5) (n := n) (A4 := A4) (c4 := c4) (A6 := A6) (c6 := c6) (A := A) (cp := cp) (p := p) (by rfl) rfl rfl hB5.out.hz (by unfold setRef; rw [hL.out]) hb15.out (by omega) h.out.lp (.inl ⟨rfl, rfl, rfl⟩)
set_option maxHeartbeats 8000000 in
theorem refStep_yes {n y : S26} {A4 : Option Addr} {c4 : Nat} {A6 : Option Addr} {c6 : Nat} {A : Option Addr} {cp : Nat} {p : List Int} {P B : List (List Int)} {w : World} (h : RefR n A4 c4 A6 c6 A cp p w) (hO : OkT n) (hP : PlaceT n P p B y) (he : ord 100 n = P ++ p :: B) {by_ : Int} {jn : Nat} (h0 : -1 ≤ by_) (h1 : by_ ≤ 1) (hj : (P.length : Int) + by_ = (jn : Int)) (hjl : jn < (ord 100 n).length) :
    Calls Try.prog 47 #[refV n A4 c4 A6 c6 A cp p, .int .i64 by_] w (RefM n A4 c4 A6 c6 A cp p w true (ord 100 n)[jn]) := by
  have hu26 := Try.underlying26
  have hu34 := Try.underlying34
  obtain ⟨hB, hb⟩ := RefB.new h
  have hlp := h.lp
  obtain ⟨L, hL⟩ : ∃ L, p.length = L := ⟨_, rfl⟩
  obtain ⟨w1, hw1⟩ : ∃ w1, ((w.alloc (.cells #[.int .i64 n.f0, .int .i64 n.f1, .int .i64 n.f2, .int .i64 n.f3, .slice A4 n.f4.length c4, .string n.f5, .slice A6 n.f6.length c6, .slice A p.length cp] 34)).alloc (.cells #[.int .i64 0, .int .i64 0, .int .i64 0, .int .i64 0, .slice none 0 0, .string ⟨#[]⟩, .slice none 0 0, .slice none 0 0] 34)) = w1 := ⟨_, rfl⟩
  have hB1 : RefB n A4 c4 A6 c6 A cp p w.heap.size w1 := hw1 ▸ hB
  have hb1 : Below w.heap.size w w1 := hw1 ▸ hb
  obtain ⟨x0, x1, x2, x3, x4, x5, x6, x7⟩ := hB1.cells
  unfold refV
  rw [hL] at hw1 x7 hlp ⊢
  replace h := Aside0.mk h
  replace hB1 := Aside0.mk hB1
  replace hb1 := Aside0.mk hb1
  replace hL := Aside0.mk hL
  clear hB hb
  have hOr := refOrder_calls hO hB1.out.r.l4 hB1.out.r.g4 hB1.out.r.l6 hB1.out.r.g6
  obtain ⟨J, hJ⟩ : ∃ J, P.length = J := ⟨_, rfl⟩
  obtain ⟨K, hK⟩ : ∃ K, (ord 100 n).length = K := ⟨_, rfl⟩
  have hKc : K = cnt 100 n := by rw [← hK, ord_len 100 n hO.sm, pre_len 100 n hO.sm]
  have hct := hO.ct
  have hPl := hP.len
  rw [hJ] at hj
  have hR0 : rd_L5 (ord 100 n) (jn : Int) = (ord 100 n)[jn] := rdL5 hjl
  rw [hK] at hjl
  rw [hK] at hOr
  have hwr : IntKind.i64.wrap ((J : Int) + by_) = (jn : Int) := by rw [IntKind.wrap_i64]; omega
  have hn0 : decide ((jn : Int) < 0) = false := decide_eq_false (by omega)
  have hge := decide_eq_false (show ¬ (K : Int) ≤ (jn : Int) by omega)
  have hge2 : decide ((jn : Int) ≥ (K : Int)) = false := hge
  have hge3 : decide (K ≤ jn) = false := decide_eq_false (by omega)
  replace hOr := Aside0.mk hOr
  replace hO := Aside0.mk hO
  replace hP := Aside0.mk hP
  replace he := Aside0.mk he
  replace hJ := Aside0.mk hJ
  replace hK := Aside0.mk hK
  replace hR0 := Aside0.mk hR0
  clear hKc hct hPl h0 h1 hj
  go_enter Try.func47, Try.ntmps47
  go_upto_region 5 with (first
    | (go_at_call 39; refine hpl.out.mono ?_; rintro e w5 ⟨rfl, hb5⟩; have hB5 := hB3.out.below hb5; have hb15 := below_step hb13.out hb5; obtain ⟨x0, x1, x2, x3, x4, x5, x6, x7⟩ := RefB.cells hB5; rw [hL.out] at x7; obtain ⟨ad, A0, c0, hAo, i0, i1, Fi, adk⟩ := rowF_at (Kd.F_below Fo.out hb5) (jn : Int) (by omega) (by omega); rw [hR0.out] at i0 i1 Fi; subst hAo; simp only [Int.toNat_natCast] at i0; obtain ⟨z0, z1, z2, z3, z4, z5, z6, z7, zf⟩ := RefB.zeros hB5; have q0 := zf 0; have q1 := zf 1; have q2 := zf 2; have q3 := zf 3; have q4 := zf 4; have q5 := zf 5; have q6 := zf 6; have q7 := zf 7; clear zf; replace hB5 := Aside0.mk hB5; replace hb15 := Aside0.mk hb15; replace Fi := Aside0.mk Fi; replace i1 := Aside0.mk i1; replace adk := Aside0.mk adk; clear hb5)
    | (go_at_call 48; refine hOr.out.mono ?_; rintro e w3 ⟨Ao, co, rfl, lo, Fo, hb3⟩; have hB3 := hB1.out.below hb3; obtain ⟨x0, x1, x2, x3, x4, x5, x6, x7⟩ := RefB.cells hB3; rw [hL.out] at x7; have hb13 := below_step hb1.out hb3; have hpl := refPlace_calls hB3.r hO.out hP.out he.out; unfold refV at hpl; rw [hL.out, hJ.out] at hpl; replace hpl := Aside0.mk hpl; replace hb13 := Aside0.mk hb13; replace hB3 := Aside0.mk hB3; replace Fo := Aside0.mk Fo; clear hb3))
  obtain ⟨R, hR⟩ : ∃ R, (ord 100 n)[jn].length = R := ⟨_, rfl⟩
  rw [hR] at i0
  have hSof : (w5.cell? ⟨w.heap.size, 0, none⟩ = some (.int .i64 n.f0) ∧ w5.cell? ⟨w.heap.size, 1, none⟩ = some (.int .i64 n.f1) ∧ w5.cell? ⟨w.heap.size, 2, none⟩ = some (.int .i64 n.f2) ∧ w5.cell? ⟨w.heap.size, 3, none⟩ = some (.int .i64 n.f3) ∧ w5.cell? ⟨w.heap.size, 4, none⟩ = some (.slice A4 n.f4.length c4) ∧ w5.cell? ⟨w.heap.size, 5, none⟩ = some (.string n.f5) ∧ w5.cell? ⟨w.heap.size, 6, none⟩ = some (.slice A6 n.f6.length c6) ∧ w5.cell? ⟨w.heap.size, 7, none⟩ = some (.slice A L cp) ∧ w5.cell? (ad.add jn) = some (.slice A0 R c0)) := ⟨x0, x1, x2, x3, x4, x5, x6, x7, i0⟩
  have hdr : Below w5.heap.size w5 w5.drew := below_drew (Below.refl _ _)
  have j0 : 0 ≤ (jn : Int) := by omega
  have j1 : (jn : Int) < (K : Int) := by omega
  replace hR := Aside0.mk hR
  replace hdr := Aside0.mk hdr
  clear hge hge2 hge3 hn0 hwr
  refine start_ (n := 9) (S := fun w' => w'.cell? ⟨w.heap.size, 0, none⟩ = some (.int .i64 n.f0) ∧ w'.cell? ⟨w.heap.size, 1, none⟩ = some (.int .i64 n.f1) ∧ w'.cell? ⟨w.heap.size, 2, none⟩ = some (.int .i64 n.f2) ∧ w'.cell? ⟨w.heap.size, 3, none⟩ = some (.int .i64 n.f3) ∧ w'.cell? ⟨w.heap.size, 4, none⟩ = some (.slice A4 n.f4.length c4) ∧ w'.cell? ⟨w.heap.size, 5, none⟩ = some (.string n.f5) ∧ w'.cell? ⟨w.heap.size, 6, none⟩ = some (.slice A6 n.f6.length c6) ∧ w'.cell? ⟨w.heap.size, 7, none⟩ = some (.slice A L cp) ∧ w'.cell? (ad.add jn) = some (.slice A0 R c0)) (ds := [7]) #[false, false, false, false, false, false, false, false, false] (by kernel_rfl) rfl rfl ?_ ?_
  · exact hSof
  intro hHeld
  refine pure_ (i := 0) (N := some 24) (v := ?_) (a' := ?_) #[true, false, false, false, false, false, false, false, false] rfl rfl (by kernel_rfl) (fun _ _ _ h => h) (Or.inl ⟨by rfl, ?_⟩) ?_ ?_
  rotate_left
  · intro w'
    go_simp
    with_reducible rfl
  rotate_left
  · simp only [Act.put, List.setIfInBounds_toArray, List.set_cons_zero, List.set_cons_succ, i64_w, i32_w]
    rfl
  refine take_ (i := 1) (N := some 25) (v := ?_) (a' := ?_) #[true, true, false, false, false, false, false, false, false] rfl rfl (by kernel_rfl) (fun _ _ _ h => h) (Or.inl ⟨by rfl, ?_⟩) hHeld ?_ ?_
  rotate_left
  · rintro w' ⟨s0, s1, s2, s3, s4, s5, s6, s7, s8⟩
    go_simp
    with_reducible rfl
  rotate_left
  · simp only [Act.put, List.setIfInBounds_toArray, List.set_cons_zero, List.set_cons_succ, i64_w, i32_w]
    rfl
  refine pure_ (i := 2) (N := some 26) (v := ?_) (a' := ?_) #[true, true, true, false, false, false, false, false, false] rfl rfl (by kernel_rfl) (fun _ _ _ h => h) (Or.inl ⟨by rfl, ?_⟩) ?_ ?_
  rotate_left
  · intro w'
    go_simp
    with_reducible rfl
  rotate_left
  · simp only [Act.put, List.setIfInBounds_toArray, List.set_cons_zero, List.set_cons_succ, i64_w, i32_w]
    rfl
  refine pure_ (i := 3) (N := some 27) (v := ?_) (a' := ?_) #[true, true, true, true, false, false, false, false, false] rfl rfl (by kernel_rfl) (fun _ _ _ h => h) (Or.inl ⟨by rfl, ?_⟩) ?_ ?_
  rotate_left
  · intro w'
    go_simp
    with_reducible rfl
  rotate_left
  · simp only [Act.put, List.setIfInBounds_toArray, List.set_cons_zero, List.set_cons_succ, i64_w, i32_w]
    rfl
  refine pure_ (i := 4) (N := some 28) (v := ?_) (a' := ?_) #[true, true, true, true, true, false, false, false, false] rfl rfl (by kernel_rfl) (fun _ _ _ h => h) (Or.inl ⟨by rfl, ?_⟩) ?_ ?_
  rotate_left
  · intro w'
    go_simp
    with_reducible rfl
  rotate_left
  · simp only [Act.put, List.setIfInBounds_toArray, List.set_cons_zero, List.set_cons_succ, i64_w, i32_w]
    rfl
  refine take_ (i := 5) (N := some 29) (v := ?_) (a' := ?_) #[true, true, true, true, true, true, false, false, false] rfl rfl (by kernel_rfl) (fun _ _ _ h => h) (Or.inl ⟨by rfl, ?_⟩) hHeld ?_ ?_
  rotate_left
  · rintro w' ⟨s0, s1, s2, s3, s4, s5, s6, s7, s8⟩
    go_simp
    with_reducible rfl
  rotate_left
  · simp only [Act.put, List.setIfInBounds_toArray, List.set_cons_zero, List.set_cons_succ, i64_w, i32_w]
    rfl
  refine pure_ (i := 6) (N := some 30) (v := ?_) (a' := ?_) #[true, true, true, true, true, true, true, false, false] rfl rfl (by kernel_rfl) (fun _ _ _ h => h) (Or.inl ⟨by rfl, ?_⟩) ?_ ?_
  rotate_left
  · intro w'
    go_simp
    with_reducible rfl
  rotate_left
  · simp only [Act.put, List.setIfInBounds_toArray, List.set_cons_zero, List.set_cons_succ, i64_w, i32_w]
    rfl
  refine last_ (i := 7) (N := none) #[true, true, true, true, true, true, true, true, false] rfl rfl (by kernel_rfl) (by decide) (fun K hK => ?_)
  refine skip_ (w1 := ?_) (by rfl) rfl ?_ ?_
  rotate_left
  · go_simp
    rfl
  refine hK.out _ _ ?_
  refine pure_ (i := 8) (N := some 5) (v := ?_) (a' := ?_) #[true, true, true, true, true, true, true, true, true] rfl rfl (by kernel_rfl) (fun _ _ _ h => h) (Or.inl ⟨by rfl, ?_⟩) ?_ ?_
  rotate_left
  · intro w'
    go_simp
    with_reducible rfl
  rotate_left
  · simp only [Act.put, List.setIfInBounds_toArray, List.set_cons_zero, List.set_cons_succ, i64_w, i32_w]
    rfl
  clear hK K
  refine done_ (by kernel_rfl) ?_
  go_wp2
  refine ref_ret (b := w.heap.size + 1) (w := w5.drew) (n := n) (A4 := A4) (c4 := c4) (A6 := A6) (c6 := c6) (A := A0) (cp := c0) (p := (ord 100 n)[jn]) (by rfl) rfl rfl (blk_drew hB5.out.hz) (by unfold setRef; rw [hR.out]; simp only [drew_set]) (below_drew hb15.out) (by omega) i1.out (.inr (Kd.F_drew (Kd.F_mono Fi.out (fun k hk => by have := blk_lt hB1.out.hz; omega))))
set_option maxHeartbeats 8000000 in
theorem refWrap35 {n : S26} {A4 : Option Addr} {c4 : Nat} {A6 : Option Addr} {c6 : Nat} {A : Option Addr} {cp : Nat} {p p' : List Int} {bo : Bool} {w : World} (h : RefR n A4 c4 A6 c6 A cp p w) (hS : ∀ W, RefR n A4 c4 A6 c6 A cp p W → Calls Try.prog 47 #[refV n A4 c4 A6 c6 A cp p, .int .i64 1] W (RefM n A4 c4 A6 c6 A cp p W bo p')) :
    Calls Try.prog 35 #[refV n A4 c4 A6 c6 A cp p] w (RefM n A4 c4 A6 c6 A cp p w bo p') := by
  have hu26 := Try.underlying26
  have hu34 := Try.underlying34
  obtain ⟨hB, hb⟩ := RefB.new h
  have hlp := h.lp
  obtain ⟨L, hL⟩ : ∃ L, p.length = L := ⟨_, rfl⟩
  obtain ⟨w1, hw1⟩ : ∃ w1, ((w.alloc (.cells #[.int .i64 n.f0, .int .i64 n.f1, .int .i64 n.f2, .int .i64 n.f3, .slice A4 n.f4.length c4, .string n.f5, .slice A6 n.f6.length c6, .slice A p.length cp] 34)).alloc (.cells #[.int .i64 0, .int .i64 0, .int .i64 0, .int .i64 0, .slice none 0 0, .string ⟨#[]⟩, .slice none 0 0, .slice none 0 0] 34)) = w1 := ⟨_, rfl⟩
  have hB1 : RefB n A4 c4 A6 c6 A cp p w.heap.size w1 := hw1 ▸ hB
  have hb1 : Below w.heap.size w w1 := hw1 ▸ hb
  obtain ⟨x0, x1, x2, x3, x4, x5, x6, x7⟩ := hB1.cells
  unfold refV
  rw [hL] at hw1 x7 hlp ⊢
  replace h := Aside0.mk h
  replace hB1 := Aside0.mk hB1
  replace hb1 := Aside0.mk hb1
  replace hL := Aside0.mk hL
  clear hB hb
  have hs := hS w1 hB1.out.r
  obtain ⟨M, hM⟩ : ∃ M, p'.length = M := ⟨_, rfl⟩
  unfold RefM refV at hs
  rw [hL.out, hM] at hs
  replace hs := Aside0.mk hs
  replace hM := Aside0.mk hM
  clear hS
  go_enter Try.func35, Try.ntmps35
  go_wp2_with (go_at_call 47; refine hs.out.mono ?_; rintro e w3 ⟨A', cp', rfl, lp3, hp3, hb3⟩; have hB3 := hB1.out.below hb3; have hb13 := below_step hb1.out hb3; obtain ⟨z0, z1, z2, z3, z4, z5, z6, z7, zf⟩ := RefB.zeros hB3; have q0 := zf 0; have q1 := zf 1; have q2 := zf 2; have q3 := zf 3; have q4 := zf 4; have q5 := zf 5; have q6 := zf 6; have q7 := zf 7; clear zf; replace hB3 := Aside0.mk hB3; replace hb13 := Aside0.mk hb13; replace lp3 := Aside0.mk lp3; replace hp3 := Aside0.mk hp3; clear hb3)
  have hg := blk_lt hB1.out.hz
  have hz1 := hb1.out.size
  refine ref_ret (b := w.heap.size + 1) (w := w3) (n := n) (A4 := A4) (c4 := c4) (A6 := A6) (c6 := c6) (A := A') (cp := cp') (p := p') (by rfl) rfl rfl hB3.out.hz (by unfold setRef; rw [hM.out]) hb13.out (by omega) (by rw [hM.out]; exact lp3.out) (hp3.out.imp id (fun hp => by rw [hM.out]; exact Kd.F_mono hp (fun k hk => by omega)))
set_option maxHeartbeats 8000000 in
theorem refWrap36 {n : S26} {A4 : Option Addr} {c4 : Nat} {A6 : Option Addr} {c6 : Nat} {A : Option Addr} {cp : Nat} {p p' : List Int} {bo : Bool} {w : World} (h : RefR n A4 c4 A6 c6 A cp p w) (hS : ∀ W, RefR n A4 c4 A6 c6 A cp p W → Calls Try.prog 47 #[refV n A4 c4 A6 c6 A cp p, .int .i64 (-1)] W (RefM n A4 c4 A6 c6 A cp p W bo p')) :
    Calls Try.prog 36 #[refV n A4 c4 A6 c6 A cp p] w (RefM n A4 c4 A6 c6 A cp p w bo p') := by
  have hu26 := Try.underlying26
  have hu34 := Try.underlying34
  obtain ⟨hB, hb⟩ := RefB.new h
  have hlp := h.lp
  obtain ⟨L, hL⟩ : ∃ L, p.length = L := ⟨_, rfl⟩
  obtain ⟨w1, hw1⟩ : ∃ w1, ((w.alloc (.cells #[.int .i64 n.f0, .int .i64 n.f1, .int .i64 n.f2, .int .i64 n.f3, .slice A4 n.f4.length c4, .string n.f5, .slice A6 n.f6.length c6, .slice A p.length cp] 34)).alloc (.cells #[.int .i64 0, .int .i64 0, .int .i64 0, .int .i64 0, .slice none 0 0, .string ⟨#[]⟩, .slice none 0 0, .slice none 0 0] 34)) = w1 := ⟨_, rfl⟩
  have hB1 : RefB n A4 c4 A6 c6 A cp p w.heap.size w1 := hw1 ▸ hB
  have hb1 : Below w.heap.size w w1 := hw1 ▸ hb
  obtain ⟨x0, x1, x2, x3, x4, x5, x6, x7⟩ := hB1.cells
  unfold refV
  rw [hL] at hw1 x7 hlp ⊢
  replace h := Aside0.mk h
  replace hB1 := Aside0.mk hB1
  replace hb1 := Aside0.mk hb1
  replace hL := Aside0.mk hL
  clear hB hb
  have hs := hS w1 hB1.out.r
  obtain ⟨M, hM⟩ : ∃ M, p'.length = M := ⟨_, rfl⟩
  unfold RefM refV at hs
  rw [hL.out, hM] at hs
  replace hs := Aside0.mk hs
  replace hM := Aside0.mk hM
  clear hS
  go_enter Try.func36, Try.ntmps36
  go_wp2_with (go_at_call 47; refine hs.out.mono ?_; rintro e w3 ⟨A', cp', rfl, lp3, hp3, hb3⟩; have hB3 := hB1.out.below hb3; have hb13 := below_step hb1.out hb3; obtain ⟨z0, z1, z2, z3, z4, z5, z6, z7, zf⟩ := RefB.zeros hB3; have q0 := zf 0; have q1 := zf 1; have q2 := zf 2; have q3 := zf 3; have q4 := zf 4; have q5 := zf 5; have q6 := zf 6; have q7 := zf 7; clear zf; replace hB3 := Aside0.mk hB3; replace hb13 := Aside0.mk hb13; replace lp3 := Aside0.mk lp3; replace hp3 := Aside0.mk hp3; clear hb3)
  have hg := blk_lt hB1.out.hz
  have hz1 := hb1.out.size
  refine ref_ret (b := w.heap.size + 1) (w := w3) (n := n) (A4 := A4) (c4 := c4) (A6 := A6) (c6 := c6) (A := A') (cp := cp') (p := p') (by rfl) rfl rfl hB3.out.hz (by unfold setRef; rw [hM.out]) hb13.out (by omega) (by rw [hM.out]; exact lp3.out) (hp3.out.imp id (fun hp => by rw [hM.out]; exact Kd.F_mono hp (fun k hk => by omega)))
theorem refNext_calls {n y : S26} {A4 : Option Addr} {c4 : Nat} {A6 : Option Addr} {c6 : Nat} {A : Option Addr} {cp : Nat} {p : List Int} {P B : List (List Int)} {w : World} (h : RefR n A4 c4 A6 c6 A cp p w) (hO : OkT n) (hP : PlaceT n P p B y) (he : ord 100 n = P ++ p :: B) :
    (∀ q B', B = q :: B' → Calls Try.prog 35 #[refV n A4 c4 A6 c6 A cp p] w (RefM n A4 c4 A6 c6 A cp p w true q)) ∧ (B = [] → Calls Try.prog 35 #[refV n A4 c4 A6 c6 A cp p] w (RefM n A4 c4 A6 c6 A cp p w false p)) := by
  have hlen : (ord 100 n).length = P.length + 1 + B.length := by rw [he]; simp; omega
  constructor
  · rintro q B' rfl
    have hjl : P.length + 1 < (ord 100 n).length := by rw [hlen]; simp
    have hq : (ord 100 n)[P.length + 1] = q := by
      have : (ord 100 n)[P.length + 1]? = some q := by rw [he]; simp
      exact (List.getElem?_eq_some_iff.1 this).2
    refine refWrap35 h (fun W hW => ?_)
    have := refStep_yes (by_ := 1) (jn := P.length + 1) hW hO hP he (by omega) (by omega) (by omega) hjl
    rwa [hq] at this
  · rintro rfl
    refine refWrap35 h (fun W hW => refStep_no (by_ := 1) hW hO hP he (by omega) (by omega) (.inr ?_))
    rw [hlen]
    simp
theorem refPrev_calls {n y : S26} {A4 : Option Addr} {c4 : Nat} {A6 : Option Addr} {c6 : Nat} {A : Option Addr} {cp : Nat} {p : List Int} {P B : List (List Int)} {w : World} (h : RefR n A4 c4 A6 c6 A cp p w) (hO : OkT n) (hP : PlaceT n P p B y) (he : ord 100 n = P ++ p :: B) :
    (∀ q, P.getLast? = some q → Calls Try.prog 36 #[refV n A4 c4 A6 c6 A cp p] w (RefM n A4 c4 A6 c6 A cp p w true q)) ∧ (P = [] → Calls Try.prog 36 #[refV n A4 c4 A6 c6 A cp p] w (RefM n A4 c4 A6 c6 A cp p w false p)) := by
  have hlen : (ord 100 n).length = P.length + 1 + B.length := by rw [he]; simp; omega
  constructor
  · intro q hlast
    obtain ⟨P', rfl⟩ := List.getLast?_eq_some_iff.1 hlast
    have hjl : P'.length < (ord 100 n).length := by rw [hlen]; simp; omega
    have hq : (ord 100 n)[P'.length] = q := by
      have : (ord 100 n)[P'.length]? = some q := by rw [he]; simp
      exact (List.getElem?_eq_some_iff.1 this).2
    refine refWrap36 h (fun W hW => ?_)
    have := refStep_yes (by_ := -1) (jn := P'.length) hW hO hP he (by omega) (by omega) (by simp; omega) hjl
    rwa [hq] at this
  · rintro rfl
    exact refWrap36 h (fun W hW => refStep_no (by_ := -1) hW hO hP he (by omega) (by omega) (.inl (by simp)))
end Go.Proofs.Ytfekpmbecoeijaa.Hand
namespace Go.Proofs.Ytfekpmbecoeijaa.Hand
open Go.RowKit Go.Proofs.YtfekpmbecoeijaaW.PrintWords Go.Proofs.YtfekpmbecoeijaaW.PrintLast Go.Proofs.YtfekpmbecoeijaaW.PrintMore Go.Proofs.Ytfekpmbecoeijaa.Q Go.Proofs.Ytfekpmbecoeijaa.RF Go.Proofs.Ytfekpmbecoeijaa.Pure
set_option linter.unusedVariables false
set_option linter.unusedSimpArgs false
set_option maxRecDepth 100000
theorem refAll_calls {n : S26} (hO : OkT n) {A4 : Option Addr} {c4 : Nat} {A6 : Option Addr} {c6 : Nat} {w : World} (l4 : n.f4.length ≤ c4) (g4 : Kd.C k76 w A4 n.f4.length n.f4) (l6 : n.f6.length ≤ c6) (g6 : Kd.C k26 w A6 n.f6.length n.f6) :
    Calls Try.prog 38 #[nodeV n A4 c4 A6 c6] w fun e w' => ∃ Aa ca, e = .returned (.slice Aa (pre 100 n).length ca) ∧ (pre 100 n).length ≤ ca ∧ Kd.C k26 w' Aa (pre 100 n).length (pre 100 n) ∧ Below w.heap.size w w' := by
  obtain ⟨k, hk⟩ := (all_ev 100 n hO.sm hO.ct).rounds
  refine (arboristref42_All.calls k n.f0 n.f1 n.f2 n.f3 (fun k_ => k_ < w.heap.size) A4 c4 n.f4 n.f5 (fun k_ => k_ < w.heap.size) A6 c6 n.f6 _ w (Kd.V_mk l4 (Kd.C_F k76_heap g4)) (Kd.V_mk l6 (Kd.C_F k26_heap g6)) hk).mono ?_
  rintro e w' ⟨v, rfl, hN, hb⟩
  obtain ⟨Aa, ca, rfl⟩ := Kd.N_slice hN
  exact ⟨Aa, ca, rfl, (Kd.N_reads' hN).2.1, (Kd.N_reads' hN).2.2, hb⟩
theorem lenL_mono {l : List S26} {i j : Nat} (h : i ≤ j) : lenL (l.take i) ≤ lenL (l.take j) := by
  have := lenL_le (l := l.take j) i
  rwa [List.take_take, Nat.min_eq_left h] at this
def LeafTo (n : S26) (p : List Int) (at_ : Int) (bo : Bool) (p' : List Int) : Prop :=
  (bo = false ∧ p' = p ∧ (at_ < 0 ∨ (tot 100 n : Int) ≤ at_)) ∨ (∃ (jn : Nat), bo = true ∧ (ord 100 n)[jn]? = some p' ∧ (lenL ((pre 100 n).take jn) : Int) ≤ at_ ∧ at_ < (lenL ((pre 100 n).take (jn + 1)) : Int))
set_option maxHeartbeats 8000000 in
theorem refLeaf_calls {n y : S26} {A4 : Option Addr} {c4 : Nat} {A6 : Option Addr} {c6 : Nat} {A : Option Addr} {cp : Nat} {p : List Int} {w : World} (h : RefR n A4 c4 A6 c6 A cp p w) (hO : OkT n) {at_ : Int} {bo : Bool} {p' : List Int} (hL' : LeafTo n p at_ bo p') :
    Calls Try.prog 37 #[refV n A4 c4 A6 c6 A cp p, .int .i64 at_] w (RefM n A4 c4 A6 c6 A cp p w bo p') := by
  have hu26 := Try.underlying26
  have hu34 := Try.underlying34
  obtain ⟨hB, hb⟩ := RefB.new h
  have hlp := h.lp
  obtain ⟨L, hL⟩ : ∃ L, p.length = L := ⟨_, rfl⟩
  obtain ⟨w1, hw1⟩ : ∃ w1, ((w.alloc (.cells #[.int .i64 n.f0, .int .i64 n.f1, .int .i64 n.f2, .int .i64 n.f3, .slice A4 n.f4.length c4, .string n.f5, .slice A6 n.f6.length c6, .slice A p.length cp] 34)).alloc (.cells #[.int .i64 0, .int .i64 0, .int .i64 0, .int .i64 0, .slice none 0 0, .string ⟨#[]⟩, .slice none 0 0, .slice none 0 0] 34)) = w1 := ⟨_, rfl⟩
  have hB1 : RefB n A4 c4 A6 c6 A cp p w.heap.size w1 := hw1 ▸ hB
  have hb1 : Below w.heap.size w w1 := hw1 ▸ hb
  obtain ⟨x0, x1, x2, x3, x4, x5, x6, x7⟩ := hB1.cells
  unfold refV
  rw [hL] at hw1 x7 hlp ⊢
  replace h := Aside0.mk h
  replace hB1 := Aside0.mk hB1
  replace hb1 := Aside0.mk hb1
  replace hL := Aside0.mk hL
  clear hB hb
  have hgl : w.heap.size < w1.heap.size := World.block_lt_of_cell? _ _ x0
  obtain ⟨K, hK⟩ : ∃ K, (ord 100 n).length = K := ⟨_, rfl⟩
  have hKp : (pre 100 n).length = K := by rw [← hK]; exact (ord_len 100 n hO.sm).symm
  have hKc : K = cnt 100 n := by rw [← hKp, pre_len 100 n hO.sm]
  have hct := hO.ct
  have hK100 : K ≤ 80 := by omega
  have S0 : Below w1.heap.size w1 w1 := Below.refl _ _
  have hSof : ∀ w', Below w1.heap.size w1 w' → (Below w1.heap.size w1 w' ∧ w'.cell? ⟨w.heap.size, 0, none⟩ = some (.int .i64 n.f0) ∧ w'.cell? ⟨w.heap.size, 1, none⟩ = some (.int .i64 n.f1) ∧ w'.cell? ⟨w.heap.size, 2, none⟩ = some (.int .i64 n.f2) ∧ w'.cell? ⟨w.heap.size, 3, none⟩ = some (.int .i64 n.f3) ∧ w'.cell? ⟨w.heap.size, 4, none⟩ = some (.slice A4 n.f4.length c4) ∧ w'.cell? ⟨w.heap.size, 5, none⟩ = some (.string n.f5) ∧ w'.cell? ⟨w.heap.size, 6, none⟩ = some (.slice A6 n.f6.length c6) ∧ w'.cell? ⟨w.heap.size, 7, none⟩ = some (.slice A L cp)) := fun w' hb => ⟨hb, (hb.cell hgl).trans x0, (hb.cell hgl).trans x1, (hb.cell hgl).trans x2, (hb.cell hgl).trans x3, (hb.cell hgl).trans x4, (hb.cell hgl).trans x5, (hb.cell hgl).trans x6, (hb.cell hgl).trans x7⟩
  replace hSof := Aside0.mk hSof
  replace hO := Aside0.mk hO
  replace hK := Aside0.mk hK
  replace hKp := Aside0.mk hKp
  replace hL' := Aside0.mk hL'
  clear hKc hct
  go_enter Try.func37, Try.ntmps37
  go_upto_region 1 with (fail)
  try rw [hw1]
  go_region_held3 (fun w' => Below w1.heap.size w1 w' ∧ w'.cell? ⟨w.heap.size, 0, none⟩ = some (.int .i64 n.f0) ∧ w'.cell? ⟨w.heap.size, 1, none⟩ = some (.int .i64 n.f1) ∧ w'.cell? ⟨w.heap.size, 2, none⟩ = some (.int .i64 n.f2) ∧ w'.cell? ⟨w.heap.size, 3, none⟩ = some (.int .i64 n.f3) ∧ w'.cell? ⟨w.heap.size, 4, none⟩ = some (.slice A4 n.f4.length c4) ∧ w'.cell? ⟨w.heap.size, 5, none⟩ = some (.string n.f5) ∧ w'.cell? ⟨w.heap.size, 6, none⟩ = some (.slice A6 n.f6.length c6) ∧ w'.cell? ⟨w.heap.size, 7, none⟩ = some (.slice A L cp))
    ((refine hSof.out _ ?_; repeat (first | (with_reducible exact S5) | (with_reducible exact S3) | (with_reducible exact S0) | (with_reducible refine below_drew ?_))))
    ((first
      | (go_at_call 48; refine (refOrder_calls hO.out hB1.out.r.l4 (Kd.C_below hB1.out.r.g4 (‹Below w1.heap.size w1 _ ∧ _›).1) hB1.out.r.l6 (Kd.C_below hB1.out.r.g6 (‹Below w1.heap.size w1 _ ∧ _›).1)).mono ?_; rw [hK.out]; rintro e w5 ⟨Ao, co, rfl, lo, Fo, hb5⟩; have S5 := below_step (‹Below w1.heap.size w1 _ ∧ _›).1 hb5; have Fa5 := Kd.C_below Fa.out hb5; have Fo1 := Kd.F_mono (ok' := fun k => w1.heap.size ≤ k) Fo (fun k hk => Nat.le_trans (‹Below w1.heap.size w1 _ ∧ _›).1.size hk); replace Fo1 := Aside0.mk Fo1; replace Fa5 := Aside0.mk Fa5; clear hb5 lo Fo Fa)
      | (go_at_call 38; refine (refAll_calls hO.out hB1.out.r.l4 (Kd.C_below hB1.out.r.g4 (‹Below w1.heap.size w1 _ ∧ _›).1) hB1.out.r.l6 (Kd.C_below hB1.out.r.g6 (‹Below w1.heap.size w1 _ ∧ _›).1)).mono ?_; rw [hKp.out]; rintro e w3 ⟨Aa, ca, rfl, la, Fa, hb3⟩; have S3 := below_step (‹Below w1.heap.size w1 _ ∧ _›).1 hb3; replace Fa := Aside0.mk Fa; clear hb3 la)))
  rename_i hHeld
  have hB5 := hB1.out.below hHeld.1
  have hb15 := below_step hb1.out hHeld.1
  replace hB5 := Aside0.mk hB5
  replace hb15 := Aside0.mk hb15
  clear x0 x1 x2 x3 x4 x5 x6 x7 hHeld S3 S5 S0
  go_wp2
  go_loopg [8, 9] K (fun mm u8 u9 wr => ∃ (i : Nat), u9 = .int .i64 (i : Int) ∧ mm + i = K ∧ u8 = .int .i64 (lenL ((pre 100 n).take i) : Int) ∧ Aside0 (Below w5.heap.size w5 wr ∧ (at_ < 0 ∨ (lenL ((pre 100 n).take i) : Int) ≤ at_)))
  case atStart => exact ⟨0, rfl, by omega, rfl, ⟨Below.refl _ _, by have : lenL ((pre 100 n).take 0) = 0 := rfl; omega⟩⟩
  case round =>
    obtain ⟨i, rfl, hmi, rfl, hv⟩ := hrel
    obtain ⟨hbr, hge⟩ := hv.out
    by_cases hlt : i < K
    · have hb : decide ((i : Int) < (K : Int)) = true := decide_eq_true (by omega)
      have hb2 : decide (i < K) = true := decide_eq_true hlt
      have hip : i < (pre 100 n).length := by rw [hKp.out]; exact hlt
      obtain ⟨g1, g2⟩ := pre_at hO.out hip
      have hst := lens_step hO.out (List.getElem?_eq_getElem hip)
      have hr : rd_T26 (pre 100 n) (i : Int) = (pre 100 n)[i] := rd26 (List.getElem?_eq_getElem hip)
      have htt := hO.out.tt
      obtain ⟨ad2, E4, e4, E6, e6, hAa, r0, r1, r2, r3, r4, r5, r6, m4, f4, m6, f6⟩ := at_T26 (Kd.C_below Fa5.out hbr) (i : Int) (by omega) (by omega)
      rw [hr] at r0 r1 r2 r3 r4 r5 r6 m4 f4 m6 f6
      simp only [Int.toNat_natCast] at r0 r1 r2 r3 r4 r5 r6
      subst hAa
      generalize hyi : (pre 100 n)[i] = yi at *
      have hown := refOwn_calls g1 g2 m4 f4 m6 f6
      obtain ⟨os, hos⟩ : ∃ os, ownT yi = os := ⟨_, rfl⟩
      have hsz : os.size = textLen yi := by rw [← hos]; exact ownT_size yi
      rw [hos] at hown
      obtain ⟨cu, hcu⟩ : ∃ cu, lenL ((pre 100 n).take i) = cu := ⟨_, rfl⟩
      obtain ⟨nx, hnx⟩ : ∃ nx, lenL ((pre 100 n).take (i + 1)) = nx := ⟨_, rfl⟩
      rw [hcu] at hst hge ⊢
      rw [hnx] at hst
      have hsum : cu + os.size = nx := by omega
      have hw1 : IntKind.i64.wrap ((cu : Int) + (os.size : Int)) = (nx : Int) := by rw [IntKind.wrap_i64]; omega
      have hw2 : IntKind.i64.wrap ((i : Int) + 1) = ((i + 1 : Nat) : Int) := by rw [IntKind.wrap_i64]; omega
      have i0 : 0 ≤ (i : Int) := by omega
      have i1 : (i : Int) < (K : Int) := by omega
      replace hown := Aside0.mk hown
      replace hst := Aside0.mk hst
      replace hge := Aside0.mk hge
      replace hbr := Aside0.mk hbr
      replace hcu := Aside0.mk hcu
      replace hnx := Aside0.mk hnx
      replace hsum := Aside0.mk hsum
      replace hyi := Aside0.mk hyi
      clear hv g1 g2 hr htt m4 f4 m6 f6 hos hsz
      go_upto_region 7 with (go_at_call 27; refine hown.out.mono ?_; rintro e w7 ⟨rfl, hb7⟩; have hb57 := below_step hbr.out hb7; replace hb57 := Aside0.mk hb57; clear hb7)
      by_cases hin : (cu : Int) ≤ at_ ∧ at_ < (nx : Int)
      · have c1 := decide_eq_true hin.1
        have c1b : decide (at_ ≥ (cu : Int)) = true := c1
        have c2 := decide_eq_true hin.2
        obtain ⟨hin1, hin2⟩ := hin
        rcases hL'.out with ⟨_, _, hno⟩ | ⟨jn, rfl, hj, h1, h2⟩
        · exfalso
          have := hst.out.2
          omega
        have hij : i = jn := by
          rcases Nat.lt_trichotomy i jn with h | h | h
          · have := lenL_mono (l := pre 100 n) (i := i + 1) (j := jn) h
            rw [hnx.out] at this
            omega
          · exact h
          · have := lenL_mono (l := pre 100 n) (i := jn + 1) (j := i) h
            rw [hcu.out] at this
            omega
        subst hij
        have hpi : rd_L5 (ord 100 n) (i : Int) = p' := by
          obtain ⟨hl, hx⟩ := List.getElem?_eq_some_iff.1 hj
          rw [rdL5 hl, hx]
        obtain ⟨ad, A0, c0, hAo, y0, y1, Fi, adk⟩ := rowF_at (Kd.F_below (Kd.F_below Fo1.out (Below.refl _ _)) hb57.out) (i : Int) i0 i1
        rw [hpi] at y0 y1 Fi
        subst hAo
        simp only [Int.toNat_natCast] at y0
        have hB7 := hB5.out.below hb57.out
        obtain ⟨x0, x1, x2, x3, x4, x5, x6, x7⟩ := hB7.cells
        rw [hL.out] at x7
        obtain ⟨z0, z1, z2, z3, z4, z5, z6, z7, zf⟩ := hB7.zeros
        have q0 := zf 0
        have q1 := zf 1
        have q2 := zf 2
        have q3 := zf 3
        have q4 := zf 4
        have q5 := zf 5
        have q6 := zf 6
        have q7 := zf 7
        obtain ⟨R, hR⟩ : ∃ R, p'.length = R := ⟨_, rfl⟩
        rw [hR] at y0
        have hSof : (w7.cell? ⟨w.heap.size, 0, none⟩ = some (.int .i64 n.f0) ∧ w7.cell? ⟨w.heap.size, 1, none⟩ = some (.int .i64 n.f1) ∧ w7.cell? ⟨w.heap.size, 2, none⟩ = some (.int .i64 n.f2) ∧ w7.cell? ⟨w.heap.size, 3, none⟩ = some (.int .i64 n.f3) ∧ w7.cell? ⟨w.heap.size, 4, none⟩ = some (.slice A4 n.f4.length c4) ∧ w7.cell? ⟨w.heap.size, 5, none⟩ = some (.string n.f5) ∧ w7.cell? ⟨w.heap.size, 6, none⟩ = some (.slice A6 n.f6.length c6) ∧ w7.cell? ⟨w.heap.size, 7, none⟩ = some (.slice A L cp) ∧ w7.cell? (ad.add i) = some (.slice A0 R c0)) := ⟨x0, x1, x2, x3, x4, x5, x6, x7, y0⟩
        replace Fi := Aside0.mk Fi
        replace y1 := Aside0.mk y1
        replace hB7 := Aside0.mk hB7
        replace hR := Aside0.mk hR
        clear hin1 hin2 h1 h2 hj hpi adk zf
        go_upto_region 8 with (fail)
        refine start_ (n := 9) (S := fun w' => w'.cell? ⟨w.heap.size, 0, none⟩ = some (.int .i64 n.f0) ∧ w'.cell? ⟨w.heap.size, 1, none⟩ = some (.int .i64 n.f1) ∧ w'.cell? ⟨w.heap.size, 2, none⟩ = some (.int .i64 n.f2) ∧ w'.cell? ⟨w.heap.size, 3, none⟩ = some (.int .i64 n.f3) ∧ w'.cell? ⟨w.heap.size, 4, none⟩ = some (.slice A4 n.f4.length c4) ∧ w'.cell? ⟨w.heap.size, 5, none⟩ = some (.string n.f5) ∧ w'.cell? ⟨w.heap.size, 6, none⟩ = some (.slice A6 n.f6.length c6) ∧ w'.cell? ⟨w.heap.size, 7, none⟩ = some (.slice A L cp) ∧ w'.cell? (ad.add i) = some (.slice A0 R c0)) (ds := [7]) #[false, false, false, false, false, false, false, false, false] (by kernel_rfl) rfl rfl ?_ ?_
        · exact hSof
        intro hHeld
        refine pure_ (i := 0) (N := some 39) (v := ?_) (a' := ?_) #[true, false, false, false, false, false, false, false, false] rfl rfl (by kernel_rfl) (fun _ _ _ h => h) (Or.inl ⟨by rfl, ?_⟩) ?_ ?_
        rotate_left
        · intro w'
          go_simp
          with_reducible rfl
        rotate_left
        · simp only [Act.put, List.setIfInBounds_toArray, List.set_cons_zero, List.set_cons_succ, i64_w, i32_w]
          rfl
        refine take_ (i := 1) (N := some 40) (v := ?_) (a' := ?_) #[true, true, false, false, false, false, false, false, false] rfl rfl (by kernel_rfl) (fun _ _ _ h => h) (Or.inl ⟨by rfl, ?_⟩) hHeld ?_ ?_
        rotate_left
        · rintro w' ⟨s0, s1, s2, s3, s4, s5, s6, s7, s8⟩
          go_simp
          with_reducible rfl
        rotate_left
        · simp only [Act.put, List.setIfInBounds_toArray, List.set_cons_zero, List.set_cons_succ, i64_w, i32_w]
          rfl
        refine pure_ (i := 2) (N := some 41) (v := ?_) (a' := ?_) #[true, true, true, false, false, false, false, false, false] rfl rfl (by kernel_rfl) (fun _ _ _ h => h) (Or.inl ⟨by rfl, ?_⟩) ?_ ?_
        rotate_left
        · intro w'
          go_simp
          with_reducible rfl
        rotate_left
        · simp only [Act.put, List.setIfInBounds_toArray, List.set_cons_zero, List.set_cons_succ, i64_w, i32_w]
          rfl
        refine pure_ (i := 3) (N := some 42) (v := ?_) (a' := ?_) #[true, true, true, true, false, false, false, false, false] rfl rfl (by kernel_rfl) (fun _ _ _ h => h) (Or.inl ⟨by rfl, ?_⟩) ?_ ?_
        rotate_left
        · intro w'
          go_simp
          with_reducible rfl
        rotate_left
        · simp only [Act.put, List.setIfInBounds_toArray, List.set_cons_zero, List.set_cons_succ, i64_w, i32_w]
          rfl
        refine pure_ (i := 4) (N := some 43) (v := ?_) (a' := ?_) #[true, true, true, true, true, false, false, false, false] rfl rfl (by kernel_rfl) (fun _ _ _ h => h) (Or.inl ⟨by rfl, ?_⟩) ?_ ?_
        rotate_left
        · intro w'
          go_simp
          with_reducible rfl
        rotate_left
        · simp only [Act.put, List.setIfInBounds_toArray, List.set_cons_zero, List.set_cons_succ, i64_w, i32_w]
          rfl
        refine take_ (i := 5) (N := some 44) (v := ?_) (a' := ?_) #[true, true, true, true, true, true, false, false, false] rfl rfl (by kernel_rfl) (fun _ _ _ h => h) (Or.inl ⟨by rfl, ?_⟩) hHeld ?_ ?_
        rotate_left
        · rintro w' ⟨s0, s1, s2, s3, s4, s5, s6, s7, s8⟩
          go_simp
          with_reducible rfl
        rotate_left
        · simp only [Act.put, List.setIfInBounds_toArray, List.set_cons_zero, List.set_cons_succ, i64_w, i32_w]
          rfl
        refine pure_ (i := 6) (N := some 45) (v := ?_) (a' := ?_) #[true, true, true, true, true, true, true, false, false] rfl rfl (by kernel_rfl) (fun _ _ _ h => h) (Or.inl ⟨by rfl, ?_⟩) ?_ ?_
        rotate_left
        · intro w'
          go_simp
          with_reducible rfl
        rotate_left
        · simp only [Act.put, List.setIfInBounds_toArray, List.set_cons_zero, List.set_cons_succ, i64_w, i32_w]
          rfl
        refine last_ (i := 7) (N := none) #[true, true, true, true, true, true, true, true, false] rfl rfl (by kernel_rfl) (by decide) (fun K hK => ?_)
        refine skip_ (w1 := ?_) (by rfl) rfl ?_ ?_
        rotate_left
        · go_simp
          rfl
        refine hK.out _ _ ?_
        refine pure_ (i := 8) (N := some 5) (v := ?_) (a' := ?_) #[true, true, true, true, true, true, true, true, true] rfl rfl (by kernel_rfl) (fun _ _ _ h => h) (Or.inl ⟨by rfl, ?_⟩) ?_ ?_
        rotate_left
        · intro w'
          go_simp
          with_reducible rfl
        rotate_left
        · simp only [Act.put, List.setIfInBounds_toArray, List.set_cons_zero, List.set_cons_succ, i64_w, i32_w]
          rfl
        clear hK K
        refine done_ (by kernel_rfl) ?_
        go_wp2
        refine ref_ret (b := w.heap.size + 1) (w := w7.drew) (n := n) (A4 := A4) (c4 := c4) (A6 := A6) (c6 := c6) (A := A0) (cp := c0) (p := p') (by rfl) rfl rfl (blk_drew hB7.out.hz) (by unfold setRef; rw [hR.out]; simp only [drew_set]) (below_drew (below_step hb15.out hb57.out)) (by omega) y1.out (.inr (Kd.F_drew (Kd.F_mono Fi.out (fun k hk => by have := blk_lt hB1.out.hz; omega))))
      · have hnext : Aside0 (at_ < 0 ∨ (nx : Int) ≤ at_) := ⟨by rcases hge.out with h | h <;> omega⟩
        by_cases hlo : (cu : Int) ≤ at_
        · have c1 := decide_eq_true hlo
          have c1b : decide (at_ ≥ (cu : Int)) = true := c1
          have c2 := decide_eq_false (show ¬ at_ < (nx : Int) by omega)
          clear hin hlo
          go_wp2
          go_roundg (K - (i + 1))
          case measure => omega
          case rel => exact ⟨i + 1, rfl, by omega, by rw [hnx.out], hb57.out, by rw [hnx.out]; exact hnext.out⟩
        · have c1 := decide_eq_false hlo
          have c1b : decide (at_ ≥ (cu : Int)) = false := c1
          clear hin hlo
          go_wp2
          go_roundg (K - (i + 1))
          case measure => omega
          case rel => exact ⟨i + 1, rfl, by omega, by rw [hnx.out], hb57.out, by rw [hnx.out]; exact hnext.out⟩
    · have hb : decide ((i : Int) < (K : Int)) = false := decide_eq_false (by omega)
      have hb2 : decide (i < K) = false := decide_eq_false hlt
      obtain rfl : i = K := by omega
      have hno : bo = false ∧ p' = p := by
        rcases hL'.out with ⟨h1, h2, _⟩ | ⟨jn, _, hj, h1, h2⟩
        · exact ⟨h1, h2⟩
        · exfalso
          have hjl := (List.getElem?_eq_some_iff.1 hj).1
          have := lenL_mono (l := pre 100 n) (i := jn + 1) (j := i) (by have := hK.out; omega)
          omega
      obtain ⟨rfl, rfl⟩ := hno
      have hB7 := hB5.out.below hbr
      obtain ⟨x0, x1, x2, x3, x4, x5, x6, x7⟩ := hB7.cells
      rw [hL.out] at x7
      obtain ⟨z0, z1, z2, z3, z4, z5, z6, z7, zf⟩ := hB7.zeros
      have q0 := zf 0
      have q1 := zf 1
      have q2 := zf 2
      have q3 := zf 3
      have q4 := zf 4
      have q5 := zf 5
      have q6 := zf 6
      have q7 := zf 7
      have hlp' : Aside0 (p'.length ≤ cp) := ⟨by rw [hL.out]; exact hlp⟩
      have hb17 := below_step hb15.out hbr
      replace hb17 := Aside0.mk hb17
      replace hB7 := Aside0.mk hB7
      clear hv hge zf hlp
      go_wp2
      refine ref_ret (b := w.heap.size + 1) (w := wr) (n := n) (A4 := A4) (c4 := c4) (A6 := A6) (c6 := c6) (A := A) (cp := cp) (p := p') (by rfl) rfl rfl hB7.out.hz (by unfold setRef; rw [hL.out]) hb17.out (by omega) hlp'.out (.inl ⟨rfl, rfl, rfl⟩)
end Go.Proofs.Ytfekpmbecoeijaa.Hand
namespace Go.Proofs.Ytfekpmbecoeijaa.Hand
open Go.RowKit Go.Proofs.YtfekpmbecoeijaaW.PrintWords Go.Proofs.YtfekpmbecoeijaaW.PrintLast Go.Proofs.YtfekpmbecoeijaaW.PrintMore Go.Proofs.Ytfekpmbecoeijaa.Q Go.Proofs.Ytfekpmbecoeijaa.RF Go.Proofs.Ytfekpmbecoeijaa.Pure
set_option linter.unusedVariables false
set_option linter.unusedSimpArgs false
set_option maxRecDepth 100000
theorem Row.lower {α : Type} {d : Kd α} {e B B' : Nat} {ok : Nat → Prop} {v : Value} {xs : List α} {W : World} (h : Row d e B ok v xs W) (hb : B' ≤ B) : Row d e B' ok v xs W := by
  obtain ⟨A, c, c0, rfl, hc, hR⟩ := h
  exact ⟨A, c, c0, rfl, hc, Kd.R_lower hR hb⟩
theorem CurW.lower {B B' g : Nat} {v1 v2 v3 : Value} {c : Cu} {W : World} (h : CurW B g v1 v2 v3 c W) (hb : B' ≤ B) : CurW B' g v1 v2 v3 c W :=
  ⟨h.hb, Nat.le_trans hb h.lg, h.r1.lower hb, h.r2.lower hb, h.r3.lower hb⟩
def HeldX (B g : Nat) (w0 : World) (rs : List Pth) (os : List (Nat × Obj)) (c : Cu) (w : World) : Prop :=
  ∃ v1 v2 v3, CurW B g v1 v2 v3 c w ∧ Below B w0 w ∧ B ≤ w.heap.size ∧ (∀ r ∈ rs, r.p.length ≤ r.cp ∧ Kd.F (Kd.int .i64) w (fun k => ¬ Mine g v1 v2 v3 k ∧ ∀ x ∈ os, k ≠ x.1) r.A r.p.length r.p) ∧ ∀ x ∈ os, w.heap[x.1]? = some x.2 ∧ ¬ Mine g v1 v2 v3 x.1 ∧ B ≤ x.1
section
variable {B g : Nat} {w0 w w' : World} {c c' : Cu} {rs rs' : List Pth} {os os' : List (Nat × Obj)}
theorem HeldX.cur (h : HeldX B g w0 rs os c w) : Cur B g w0 c w := by
  obtain ⟨v1, v2, v3, h1, h2, h3, _⟩ := h
  exact ⟨v1, v2, v3, h1, h2, h3⟩
theorem HeldX.get (h : HeldX B g w0 rs os c w) {x : Nat × Obj} (hx : x ∈ os) : w.heap[x.1]? = some x.2 := by
  obtain ⟨v1, v2, v3, _, _, _, _, h5⟩ := h
  exact (h5 x hx).1
theorem HeldX.rowC (h : HeldX B g w0 rs os c w) {r : Pth} (hr : r ∈ rs) : r.p.length ≤ r.cp ∧ Kd.C (Kd.int .i64) w r.A r.p.length r.p := by
  obtain ⟨v1, v2, v3, _, _, _, h4, _⟩ := h
  exact ⟨(h4 r hr).1, Kd.F_now (h4 r hr).2⟩
theorem HeldX.only (h : HeldX B g w0 rs os c w) (hs : ∀ r ∈ rs', r ∈ rs) (ho : ∀ x ∈ os', x ∈ os) : HeldX B g w0 rs' os' c w := by
  obtain ⟨v1, v2, v3, h1, h2, h3, h4, h5⟩ := h
  exact ⟨v1, v2, v3, h1, h2, h3, fun r hr => ⟨(h4 r (hs r hr)).1, Kd.F_mono (h4 r (hs r hr)).2 (fun k hk => ⟨hk.1, fun x hx => hk.2 x (ho x hx)⟩)⟩, fun x hx => h5 x (ho x hx)⟩
theorem HeldX.below (h : HeldX B g w0 rs os c w) (hb : Below w.heap.size w w') : HeldX B g w0 rs os c w' := by
  obtain ⟨v1, v2, v3, h1, h2, h3, h4, h5⟩ := h
  exact ⟨v1, v2, v3, h1.below hb, h2.trans (hb.mono h3), Nat.le_trans h3 hb.size, fun r hr => ⟨(h4 r hr).1, Kd.F_below (h4 r hr).2 hb⟩, fun x hx => ⟨blk_below (h5 x hx).1 hb, (h5 x hx).2⟩⟩
theorem HeldX.moved {v1 v2 v3 : Value} (h1 : CurW B g v1 v2 v3 c w) (h2 : Below B w0 w) (h3 : B ≤ w.heap.size) (h4 : ∀ r ∈ rs, r.p.length ≤ r.cp ∧ Kd.F (Kd.int .i64) w (fun k => ¬ Mine g v1 v2 v3 k ∧ ∀ x ∈ os, k ≠ x.1) r.A r.p.length r.p) (h5 : ∀ x ∈ os, w.heap[x.1]? = some x.2 ∧ ¬ Mine g v1 v2 v3 x.1 ∧ B ≤ x.1) (h : Moved B g v1 v2 v3 w c' w') : HeldX B g w0 rs os c' w' := by
  obtain ⟨u1, u2, u3, hG, hC, hm⟩ := h
  refine ⟨u1, u2, u3, hC, hG.below_then h2 h3 (fun k hk hm => by have := (Mine.ge h1 hm).1; omega), Nat.le_trans h3 hG.size, fun r hr => ⟨(h4 r hr).1, ?_⟩, fun x hx => ?_⟩
  · refine Kd.F_mono (Kd.F_step (Kd.F_bound (h4 r hr).2) (fun k hk hlt => hG.block k hlt hk.1.1)) (fun k hk => ⟨fun hmk => ?_, hk.1.2⟩)
    rcases hm k hmk with h | h
    · exact hk.1.1 h
    · have := hk.2; omega
  · obtain ⟨e1, e2, e3⟩ := h5 x hx
    have hlt := blk_lt e1
    refine ⟨(hG.block _ hlt e2).trans e1, fun hmk => ?_, e3⟩
    rcases hm _ hmk with h | h
    · exact e2 h
    · omega
theorem HeldX.box (h : HeldX B g w0 rs os c w) (o : Obj) : HeldX B g w0 rs ((w.heap.size, o) :: os) c (w.alloc o) := by
  have hb := below_alloc (Below.refl w.heap.size w) o
  obtain ⟨v1, v2, v3, h1, h2, h3, h4, h5⟩ := h
  refine ⟨v1, v2, v3, h1.below hb, h2.trans (hb.mono h3), Nat.le_trans h3 hb.size, fun r hr => ⟨(h4 r hr).1, ?_⟩, fun x hx => ?_⟩
  · refine Kd.F_mono (Kd.F_below (Kd.F_bound (h4 r hr).2) hb) (fun k hk => ⟨hk.1.1, fun x hx => ?_⟩)
    rcases List.mem_cons.1 hx with rfl | hx
    · have := hk.2
      show k ≠ w.heap.size
      omega
    · exact hk.1.2 x hx
  · rcases List.mem_cons.1 hx with rfl | hx
    · exact ⟨blk_new _ _, fun hm => by have := (Mine.ge h1 hm).2; simp at this, h3⟩
    · exact ⟨blk_below (h5 x hx).1 hb, (h5 x hx).2⟩
theorem Row.types {α : Type} {d : Kd α} {e B b : Nat} {ok : Nat → Prop} {v : Value} {xs : List α} {W : World} {cs : Array Value} {t : TypeId} (h : Row d e B ok v xs W) (hb : W.heap[b]? = some (.cells cs t (0, 0))) (ht : ∀ q, q ∈ e :: d.E → q ≠ t) : Row d e B (fun k => ok k ∧ k ≠ b) v xs W := by
  obtain ⟨A, c, c0, rfl, hc, hR⟩ := h
  exact ⟨A, c, c0, rfl, hc, Kd.R_types hR hb ht⟩
theorem HeldX.put {b : Nat} {cs : Array Value} {o' : Obj} (h : HeldX B g w0 rs ((b, .cells cs 34 (0, 0)) :: os) c w) (hc : Chg (fun k => k = b) w w') (hb : w'.heap[b]? = some o') (hne : ∀ x ∈ os, x.1 ≠ b) : HeldX B g w0 rs ((b, o') :: os) c w' := by
  obtain ⟨v1, v2, v3, h1, h2, h3, h4, h5⟩ := h
  obtain ⟨e1, e2, e3⟩ := h5 _ List.mem_cons_self
  have hbm : ∀ k, Mine g v1 v2 v3 k → ¬ k = b := fun k hk e => e2 (e ▸ hk)
  have hgl := h1.g_lt
  refine ⟨v1, v2, v3, ⟨(hc.block g hgl (hbm g (.inl rfl))).trans h1.hb, h1.lg, ?_, ?_, ?_⟩, hc.below_then h2 h3 (fun k hk e => by subst e; exact absurd e3 (by simp only; omega)), Nat.le_trans h3 hc.size, fun r hr => ⟨(h4 r hr).1, ?_⟩, fun x hx => ?_⟩
  · exact ((h1.r1.types e1 (by decide)).step (fun k hk hlt => hc.block k hlt hk.2)).mono (fun k hk => hk.1)
  · exact ((h1.r2.types e1 (by decide)).step (fun k hk hlt => hc.block k hlt hk.2)).mono (fun k hk => hk.1)
  · exact ((h1.r3.types e1 (by decide)).step (fun k hk hlt => hc.block k hlt hk.2)).mono (fun k hk => hk.1)
  · refine Kd.F_mono (Kd.F_step (h4 r hr).2 (fun k hk hlt => hc.block k hlt (hk.2 _ List.mem_cons_self))) (fun k hk => ⟨hk.1, fun x hx => ?_⟩)
    rcases List.mem_cons.1 hx with rfl | hx
    · exact hk.2 (b, .cells cs 34 (0, 0)) List.mem_cons_self
    · exact hk.2 x (List.mem_cons_of_mem _ hx)
  · rcases List.mem_cons.1 hx with rfl | hx
    · exact ⟨hb, e2, e3⟩
    · obtain ⟨f1, f2, f3⟩ := h5 x (List.mem_cons_of_mem _ hx)
      exact ⟨(hc.block _ (blk_lt f1) (hne x hx)).trans f1, f2, f3⟩
theorem HeldX.leaf (h : HeldX B g w0 rs os c w) (fu sz : Nat) (at_ : Int) (b : Bool) (c' : Cu) (hf : leafF fu sz c at_ = some (b, c')) :
    Calls Try.prog 26 #[.pointer (some ⟨g, 0, none⟩), .int .i64 at_] w fun e w' => e = .returned (.bool b) ∧ HeldX B g w0 rs os c' w' := by
  obtain ⟨v1, v2, v3, h1, h2, h3, h4, h5⟩ := h
  refine (Leaf_F h1 h3 fu sz at_ b c' hf).mono ?_
  rintro e w' ⟨rfl, hm⟩
  exact ⟨rfl, .moved h1 h2 h3 h4 h5 hm⟩
theorem HeldX.next (h : HeldX B g w0 rs os c w) (fu : Nat) (b : Bool) (c' : Cu) (hf : nextF fu c = some (b, c')) :
    Calls Try.prog 23 #[.pointer (some ⟨g, 0, none⟩)] w fun e w' => e = .returned (.bool b) ∧ HeldX B g w0 rs os c' w' := by
  obtain ⟨v1, v2, v3, h1, h2, h3, h4, h5⟩ := h
  refine (Next_calls h1 h3 fu b c' hf).mono ?_
  rintro e w' ⟨rfl, hm⟩
  exact ⟨rfl, .moved h1 h2 h3 h4 h5 hm⟩
theorem HeldX.prev (h : HeldX B g w0 rs os c w) (fu sz : Nat) (b : Bool) (c' : Cu) (hf : prevF fu sz c = some (b, c')) :
    Calls Try.prog 24 #[.pointer (some ⟨g, 0, none⟩)] w fun e w' => e = .returned (.bool b) ∧ HeldX B g w0 rs os c' w' := by
  obtain ⟨v1, v2, v3, h1, h2, h3, h4, h5⟩ := h
  refine (Prev_calls h1 h3 fu sz b c' hf).mono ?_
  rintro e w' ⟨rfl, hm⟩
  exact ⟨rfl, .moved h1 h2 h3 h4 h5 hm⟩
theorem HeldX.down (h : HeldX B g w0 rs os c w) (fu : Nat) (i : Int) (b : Bool) (c' : Cu) (hf : downF fu c i = some (b, c')) :
    Calls Try.prog 21 #[.pointer (some ⟨g, 0, none⟩), .int .i64 i] w fun e w' => e = .returned (.bool b) ∧ HeldX B g w0 rs os c' w' := by
  obtain ⟨v1, v2, v3, h1, h2, h3, h4, h5⟩ := h
  refine (Down_calls h1 h3 fu i b c' hf).mono ?_
  rintro e w' ⟨rfl, hm⟩
  exact ⟨rfl, .moved h1 h2 h3 h4 h5 hm⟩
theorem HeldX.up (h : HeldX B g w0 rs os c w) (hk : c.ok) (m : Nat) (hm : c.ps.length = m + 1) :
    Calls Try.prog 22 #[.pointer (some ⟨g, 0, none⟩)] w fun e w' => e = .returned (.bool true) ∧ HeldX B g w0 rs os c.up w' := by
  obtain ⟨v1, v2, v3, h1, h2, h3, h4, h5⟩ := h
  refine (Up_calls h1 hk m hm).mono ?_
  rintro e w' ⟨rfl, hm⟩
  exact ⟨rfl, .moved h1 h2 h3 h4 h5 hm⟩
theorem HeldX.upNone (h : HeldX B g w0 rs os c w) (hm : c.ps.length = 0) :
    Calls Try.prog 22 #[.pointer (some ⟨g, 0, none⟩)] w fun e w' => e = .returned (.bool false) ∧ HeldX B g w0 rs os c w' := by
  have h' := h
  obtain ⟨v1, v2, v3, h1, h2, h3, h4, h5⟩ := h
  refine (Up_none h1 hm).mono ?_
  rintro e w' ⟨rfl, rfl⟩
  exact ⟨rfl, h'⟩
theorem HeldX.lt (h : HeldX B g w0 rs os c w) {x : Nat × Obj} (hx : x ∈ os) : x.1 < w.heap.size ∧ B ≤ x.1 := by
  have hl := blk_lt (h.get hx)
  obtain ⟨v1, v2, v3, _, _, _, _, h5⟩ := h
  exact ⟨hl, (h5 x hx).2.2⟩
theorem HeldX.row (h : HeldX B g w0 rs os c w) (hb : Below w.heap.size w w') {r : Pth} (hl : r.p.length ≤ r.cp) (hF : Kd.F (Kd.int .i64) w' (fun k => w.heap.size ≤ k) r.A r.p.length r.p) : HeldX B g w0 (r :: rs) os c w' := by
  have hlt := fun {x : Nat × Obj} (hx : x ∈ os) => (h.lt hx).1
  obtain ⟨v1, v2, v3, h1, h2, h3, h4, h5⟩ := h.below hb
  have hm := fun {k : Nat} (hk : Mine g v1 v2 v3 k) => Mine.ge h1 hk
  obtain ⟨u1, u2, u3, g1, g2, g3, g4, g5⟩ := h
  have h1' := g1.below hb
  refine ⟨u1, u2, u3, h1', h2, h3, fun r' hr => ?_, fun x hx => ⟨blk_below (g5 x hx).1 hb, (g5 x hx).2⟩⟩
  rcases List.mem_cons.1 hr with rfl | hr
  · refine ⟨hl, Kd.F_mono hF (fun k hk => ⟨fun hm => ?_, fun x hx => ?_⟩)⟩
    · have := (Mine.ge g1 hm).2; omega
    · have := hlt hx; omega
  · exact ⟨(g4 r' hr).1, Kd.F_below (g4 r' hr).2 hb⟩
theorem HeldX.path (h : HeldX B g w0 rs os c w) (hk : c.ok) {p : List Int} (hp : c.ps = p) : Calls Try.prog 13 #[.pointer (some ⟨g, 0, none⟩)] w fun e w' => ∃ A cp, e = .returned (.slice A p.length cp) ∧ p.length ≤ cp ∧ Kd.C (Kd.int .i64) w' A p.length p ∧ Below w.heap.size w w' ∧ HeldX B g w0 rs os c w' := by
  subst hp
  refine (h.cur.pathB hk).mono ?_
  rintro e w' ⟨A, cp, rfl, l, C, hb⟩
  exact ⟨A, cp, rfl, l, C, hb, h.below hb⟩
end
end Go.Proofs.Ytfekpmbecoeijaa.Hand
namespace Go.Proofs.Ytfekpmbecoeijaa.Hand
open Go.RowKit Go.Proofs.YtfekpmbecoeijaaW.PrintWords Go.Proofs.YtfekpmbecoeijaaW.PrintLast Go.Proofs.YtfekpmbecoeijaaW.PrintMore Go.Proofs.Ytfekpmbecoeijaa.Q Go.Proofs.Ytfekpmbecoeijaa.RF Go.Proofs.Ytfekpmbecoeijaa.Pure
set_option linter.unusedVariables false
set_option linter.unusedSimpArgs false
set_option maxRecDepth 100000
theorem setRef_heap8 {n : S26} {A4 : Option Addr} {c4 : Nat} {A6 : Option Addr} {c6 : Nat} {A : Option Addr} {cp b : Nat} {p : List Int} {w : World} {a0 a1 a2 a3 a4 a5 a6 a7 : Value} (hz : w.heap[b]? = some (.cells #[a0, a1, a2, a3, a4, a5, a6, a7] 34 (0, 0))) :
    (setRef w b n A4 c4 A6 c6 A cp p).heap[b]? = some (.cells #[.int .i64 n.f0, .int .i64 n.f1, .int .i64 n.f2, .int .i64 n.f3, .slice A4 n.f4.length c4, .string n.f5, .slice A6 n.f6.length c6, .slice A p.length cp] 34 (0, 0)) := by
  have h0 := blk_put (cs' := #[.int .i64 n.f0, a1, a2, a3, a4, a5, a6, a7]) hz 0 (.int .i64 n.f0) rfl
  have h1 := blk_put (cs' := #[.int .i64 n.f0, .int .i64 n.f1, a2, a3, a4, a5, a6, a7]) h0 1 (.int .i64 n.f1) rfl
  have h2 := blk_put (cs' := #[.int .i64 n.f0, .int .i64 n.f1, .int .i64 n.f2, a3, a4, a5, a6, a7]) h1 2 (.int .i64 n.f2) rfl
  have h3 := blk_put (cs' := #[.int .i64 n.f0, .int .i64 n.f1, .int .i64 n.f2, .int .i64 n.f3, a4, a5, a6, a7]) h2 3 (.int .i64 n.f3) rfl
  have h4 := blk_put (cs' := #[.int .i64 n.f0, .int .i64 n.f1, .int .i64 n.f2, .int .i64 n.f3, .slice A4 n.f4.length c4, a5, a6, a7]) h3 4 (.slice A4 n.f4.length c4) rfl
  have h5 := blk_put (cs' := #[.int .i64 n.f0, .int .i64 n.f1, .int .i64 n.f2, .int .i64 n.f3, .slice A4 n.f4.length c4, .string n.f5, a6, a7]) h4 5 (.string n.f5) rfl
  have h6 := blk_put (cs' := #[.int .i64 n.f0, .int .i64 n.f1, .int .i64 n.f2, .int .i64 n.f3, .slice A4 n.f4.length c4, .string n.f5, .slice A6 n.f6.length c6, a7]) h5 6 (.slice A6 n.f6.length c6) rfl
  have h7 := blk_put (cs' := #[.int .i64 n.f0, .int .i64 n.f1, .int .i64 n.f2, .int .i64 n.f3, .slice A4 n.f4.length c4, .string n.f5, .slice A6 n.f6.length c6, .slice A p.length cp]) h6 7 (.slice A p.length cp) rfl
  exact h7
def DoPost (B g : Nat) (w0 : World) (os : List (Nat × Obj)) (n : S26) (A4 : Option Addr) (c4 : Nat) (A6 : Option Addr) (c6 : Nat) (p' : List Int) (bo : Bool) (c' : Cu) : Ending → World → Prop := fun e w' =>
  ∃ A' cp', e = .returned (.tuple #[refV n A4 c4 A6 c6 A' cp' p', .bool bo, .bool bo]) ∧ HeldX B g w0 [⟨A', cp', p'⟩] os c' w'
theorem HeldX.refRow {B g : Nat} {w0 w w' : World} {c : Cu} {A A' : Option Addr} {cp cp' : Nat} {p p' : List Int} {os : List (Nat × Obj)} (h : HeldX B g w0 [⟨A, cp, p⟩] os c w) (hb : Below w.heap.size w w') (lp : p'.length ≤ cp') (hp : (A' = A ∧ cp' = cp ∧ p' = p) ∨ Kd.F (Kd.int .i64) w' (fun k => w.heap.size ≤ k) A' p'.length p') : HeldX B g w0 [⟨A', cp', p'⟩] os c w' := by
  rcases hp with ⟨rfl, rfl, rfl⟩ | hp
  · exact h.below hb
  · exact (h.row (r := ⟨A', cp', p'⟩) hb lp hp).only (fun r hr => by rw [List.mem_singleton.1 hr]; exact List.mem_cons_self) (fun x hx => hx)
structure NodeR (n : S26) (A4 : Option Addr) (c4 : Nat) (A6 : Option Addr) (c6 : Nat) (w : World) : Prop where
  l4 : n.f4.length ≤ c4
  g4 : Kd.C k76 w A4 n.f4.length n.f4
  l6 : n.f6.length ≤ c6
  g6 : Kd.C k26 w A6 n.f6.length n.f6
theorem NodeR.refR {n : S26} {A4 : Option Addr} {c4 : Nat} {A6 : Option Addr} {c6 : Nat} {w0 w : World} {B g : Nat} {os : List (Nat × Obj)} {c : Cu} {r : Pth} {rs : List Pth} (h : NodeR n A4 c4 A6 c6 w0) (hB : B = w0.heap.size) (hx : HeldX B g w0 rs os c w) (hr : r ∈ rs) : RefR n A4 c4 A6 c6 r.A r.cp r.p w := by
  subst hB
  have hb := hx.cur.bel
  obtain ⟨l, C⟩ := hx.rowC hr
  exact ⟨h.l4, Kd.C_below h.g4 hb, h.l6, Kd.C_below h.g6 hb, l, C⟩
set_option maxHeartbeats 8000000 in
theorem doDown {n : S26} {A4 : Option Addr} {c4 : Nat} {A6 : Option Addr} {c6 : Nat} {A : Option Addr} {cp : Nat} {p p' : List Int} {w0 w : World} {B g : Nat} {os : List (Nat × Obj)} {c c' : Cu} {bo : Bool} {kd dn : Int} (hB : B = w0.heap.size) (hN : NodeR n A4 c4 A6 c6 w0) (h : HeldX B g w0 [⟨A, cp, p⟩] os c w) 
    (hcur : ∀ os' W, HeldX B g w0 [⟨A, cp, p⟩] os' c W → Calls Try.prog 21 #[.pointer (some ⟨g, 0, none⟩), .int .i64 dn] W fun e w' => e = .returned (.bool bo) ∧ HeldX B g w0 [⟨A, cp, p⟩] os' c' w')
    (href : ∀ W, RefR n A4 c4 A6 c6 A cp p W → Calls Try.prog 33 #[refV n A4 c4 A6 c6 A cp p, .int .i64 dn] W (RefM n A4 c4 A6 c6 A cp p W bo p')) :
    Calls Try.prog 11 #[.pointer (some ⟨g, 0, none⟩), refV n A4 c4 A6 c6 A cp p, .agg #[.int .i64 0, .int .i64 dn]] w (DoPost B g w0 os n A4 c4 A6 c6 p' bo c') := by
  have hu34 := Try.underlying34
  have hu26 := Try.underlying26
  have hu39 := Try.underlying39
  have hx1 : HeldX B g w0 [⟨A, cp, p⟩] ((w.heap.size + 1 + 1 + 1, .cells #[.int .i64 n.f0, .int .i64 n.f1, .int .i64 n.f2, .int .i64 n.f3, .slice A4 n.f4.length c4, .string n.f5, .slice A6 n.f6.length c6, .slice A p.length cp] 34 (0, 0)) :: (w.heap.size + 1 + 1, .cells #[.int .i64 0, .int .i64 0, .int .i64 0, .int .i64 0, .slice none 0 0, .string ⟨#[]⟩, .slice none 0 0, .slice none 0 0] 34 (0, 0)) :: (w.heap.size + 1, .cells #[.int .i64 0, .int .i64 dn] 39 (0, 0)) :: (w.heap.size, .cells #[.int .i64 n.f0, .int .i64 n.f1, .int .i64 n.f2, .int .i64 n.f3, .slice A4 n.f4.length c4, .string n.f5, .slice A6 n.f6.length c6, .slice A p.length cp] 34 (0, 0)) :: os) c ((((w.alloc (.cells #[.int .i64 n.f0, .int .i64 n.f1, .int .i64 n.f2, .int .i64 n.f3, .slice A4 n.f4.length c4, .string n.f5, .slice A6 n.f6.length c6, .slice A p.length cp] 34)).alloc (.cells #[.int .i64 0, .int .i64 dn] 39)).alloc (.cells #[.int .i64 0, .int .i64 0, .int .i64 0, .int .i64 0, .slice none 0 0, .string ⟨#[]⟩, .slice none 0 0, .slice none 0 0] 34)).alloc (.cells #[.int .i64 n.f0, .int .i64 n.f1, .int .i64 n.f2, .int .i64 n.f3, .slice A4 n.f4.length c4, .string n.f5, .slice A6 n.f6.length c6, .slice A p.length cp] 34)) := by
    have := (((h.box (.cells #[.int .i64 n.f0, .int .i64 n.f1, .int .i64 n.f2, .int .i64 n.f3, .slice A4 n.f4.length c4, .string n.f5, .slice A6 n.f6.length c6, .slice A p.length cp] 34)).box (.cells #[.int .i64 0, .int .i64 dn] 39)).box (.cells #[.int .i64 0, .int .i64 0, .int .i64 0, .int .i64 0, .slice none 0 0, .string ⟨#[]⟩, .slice none 0 0, .slice none 0 0] 34)).box (.cells #[.int .i64 n.f0, .int .i64 n.f1, .int .i64 n.f2, .int .i64 n.f3, .slice A4 n.f4.length c4, .string n.f5, .slice A6 n.f6.length c6, .slice A p.length cp] 34)
    simpa only [World.size_alloc] using this
  obtain ⟨L, hL⟩ : ∃ L, p.length = L := ⟨_, rfl⟩
  obtain ⟨M, hM⟩ : ∃ M, p'.length = M := ⟨_, rfl⟩
  obtain ⟨w1, hw1⟩ : ∃ w1, ((((w.alloc (.cells #[.int .i64 n.f0, .int .i64 n.f1, .int .i64 n.f2, .int .i64 n.f3, .slice A4 n.f4.length c4, .string n.f5, .slice A6 n.f6.length c6, .slice A p.length cp] 34)).alloc (.cells #[.int .i64 0, .int .i64 dn] 39)).alloc (.cells #[.int .i64 0, .int .i64 0, .int .i64 0, .int .i64 0, .slice none 0 0, .string ⟨#[]⟩, .slice none 0 0, .slice none 0 0] 34)).alloc (.cells #[.int .i64 n.f0, .int .i64 n.f1, .int .i64 n.f2, .int .i64 n.f3, .slice A4 n.f4.length c4, .string n.f5, .slice A6 n.f6.length c6, .slice A p.length cp] 34)) = w1 := ⟨_, rfl⟩
  rw [hw1] at hx1
  have hD := hx1.get (x := (w.heap.size + 1, .cells #[.int .i64 0, .int .i64 dn] 39 (0, 0))) (.tail _ (.tail _ (.head _)))
  have d0 : w1.cell? ⟨w.heap.size + 1, 0, none⟩ = some (.int .i64 0) := (blk_cell hD 0).trans rfl
  have d1 : w1.cell? ⟨w.heap.size + 1, 1, none⟩ = some (.int .i64 dn) := (blk_cell hD 1).trans rfl
  have hlt : ∀ x ∈ os, x.1 < w.heap.size := fun x hx => (h.lt hx).1
  unfold refV
  rw [hL] at hw1 ⊢
  replace hx1 := Aside0.mk hx1
  replace h := Aside0.mk h
  replace hN := Aside0.mk hN
  replace hB := Aside0.mk hB
  replace hL := Aside0.mk hL
  replace hM := Aside0.mk hM
  replace hcur := Aside0.mk hcur
  replace href := Aside0.mk href
  replace hlt := Aside0.mk hlt
  clear hD
  go_enter Try.func11, Try.ntmps11
  go_upto_region 17 with (first
    | (go_at_call 33; refine hr.out.mono ?_; rintro e w3 ⟨A', cp', rfl, lp3, hp3, hb3⟩; have hx3 := hx2.out.refRow hb3 (by rw [hM.out]; exact lp3) (by rw [hM.out]; exact hp3); have h9 := (hx3.get (x := (w.heap.size + 1 + 1 + 1, .cells #[.int .i64 n.f0, .int .i64 n.f1, .int .i64 n.f2, .int .i64 n.f3, .slice A4 n.f4.length c4, .string n.f5, .slice A6 n.f6.length c6, .slice A p.length cp] 34 (0, 0))) (.head _)); rw [hL.out] at h9; have v0 := (blk_cell h9 0).trans rfl; have v1 := (blk_cell h9 1).trans rfl; have v2 := (blk_cell h9 2).trans rfl; have v3 := (blk_cell h9 3).trans rfl; have v4 := (blk_cell h9 4).trans rfl; have v5 := (blk_cell h9 5).trans rfl; have v6 := (blk_cell h9 6).trans rfl; have v7 := (blk_cell h9 7).trans rfl; have u0 := blk_frozen h9 0; have u1 := blk_frozen h9 1; have u2 := blk_frozen h9 2; have u3 := blk_frozen h9 3; have u4 := blk_frozen h9 4; have u5 := blk_frozen h9 5; have u6 := blk_frozen h9 6; have u7 := blk_frozen h9 7; replace hx3 := Aside0.mk hx3; replace h9 := Aside0.mk h9; clear hb3 hp3 lp3)
    | (go_at_call 21; refine (hcur.out _ _ hx1.out).mono ?_; rintro e w2 ⟨rfl, hx2⟩; have hr := href.out w2 (hN.out.refR hB.out hx2 (r := ⟨A, cp, p⟩) (.head _)); unfold RefM refV at hr; rw [hL.out, hM.out] at hr; have hX := (hx2.get (x := (w.heap.size, .cells #[.int .i64 n.f0, .int .i64 n.f1, .int .i64 n.f2, .int .i64 n.f3, .slice A4 n.f4.length c4, .string n.f5, .slice A6 n.f6.length c6, .slice A p.length cp] 34 (0, 0))) (.tail _ (.tail _ (.tail _ (.head _))))); rw [hL.out] at hX; have x0 := (blk_cell hX 0).trans rfl; have x1 := (blk_cell hX 1).trans rfl; have x2 := (blk_cell hX 2).trans rfl; have x3 := (blk_cell hX 3).trans rfl; have x4 := (blk_cell hX 4).trans rfl; have x5 := (blk_cell hX 5).trans rfl; have x6 := (blk_cell hX 6).trans rfl; have x7 := (blk_cell hX 7).trans rfl; have hDD := (hx2.get (x := (w.heap.size + 1, .cells #[.int .i64 0, .int .i64 dn] 39 (0, 0))) (.tail _ (.tail _ (.head _)))); have dd0 := (blk_cell hDD 0).trans rfl; have dd1 := (blk_cell hDD 1).trans rfl; replace hX := Aside0.mk hX; replace hDD := Aside0.mk hDD; replace hr := Aside0.mk hr; replace hx2 := Aside0.mk hx2))
  obtain ⟨w4, hw4⟩ : ∃ w4, setRef w3 (w.heap.size + 1 + 1 + 1) n A4 c4 A6 c6 A' cp' p' = w4 := ⟨_, rfl⟩
  have hx4 : HeldX B g w0 [⟨A', cp', p'⟩] ((w.heap.size + 1 + 1 + 1, .cells #[.int .i64 n.f0, .int .i64 n.f1, .int .i64 n.f2, .int .i64 n.f3, .slice A4 n.f4.length c4, .string n.f5, .slice A6 n.f6.length c6, .slice A' p'.length cp'] 34 (0, 0)) :: (w.heap.size + 1 + 1, .cells #[.int .i64 0, .int .i64 0, .int .i64 0, .int .i64 0, .slice none 0 0, .string ⟨#[]⟩, .slice none 0 0, .slice none 0 0] 34 (0, 0)) :: (w.heap.size + 1, .cells #[.int .i64 0, .int .i64 dn] 39 (0, 0)) :: (w.heap.size, .cells #[.int .i64 n.f0, .int .i64 n.f1, .int .i64 n.f2, .int .i64 n.f3, .slice A4 n.f4.length c4, .string n.f5, .slice A6 n.f6.length c6, .slice A p.length cp] 34 (0, 0)) :: os) c' w4 := by
    rw [← hw4]
    refine hx3.out.put setRef_chg (setRef_heap8 (hx3.out.get (.head _))) (fun x hx => ?_)
    rcases List.mem_cons.1 hx with rfl | hx
    · show w.heap.size + 1 + 1 ≠ w.heap.size + 1 + 1 + 1; omega
    rcases List.mem_cons.1 hx with rfl | hx
    · show w.heap.size + 1 ≠ w.heap.size + 1 + 1 + 1; omega
    rcases List.mem_cons.1 hx with rfl | hx
    · show w.heap.size ≠ w.heap.size + 1 + 1 + 1; omega
    have := hlt.out x hx
    omega
  unfold setRef at hw4
  rw [hM.out] at hw4
  rw [hw4]
  have hx5 := hx4.only (rs' := [⟨A', cp', p'⟩]) (os' := (w.heap.size + 1 + 1, .cells #[.int .i64 0, .int .i64 0, .int .i64 0, .int .i64 0, .slice none 0 0, .string ⟨#[]⟩, .slice none 0 0, .slice none 0 0] 34 (0, 0)) :: (w.heap.size + 1 + 1 + 1, .cells #[.int .i64 n.f0, .int .i64 n.f1, .int .i64 n.f2, .int .i64 n.f3, .slice A4 n.f4.length c4, .string n.f5, .slice A6 n.f6.length c6, .slice A' p'.length cp'] 34 (0, 0)) :: os) (fun r hr => hr) (fun x hx => by
    rcases List.mem_cons.1 hx with rfl | hx
    · exact .tail _ (.head _)
    rcases List.mem_cons.1 hx with rfl | hx
    · exact .head _
    exact .tail _ (.tail _ (.tail _ (.tail _ hx))))
  have h6 := hx5.get (.head _)
  have h9' := hx5.get (x := (w.heap.size + 1 + 1 + 1, .cells #[.int .i64 n.f0, .int .i64 n.f1, .int .i64 n.f2, .int .i64 n.f3, .slice A4 n.f4.length c4, .string n.f5, .slice A6 n.f6.length c6, .slice A' p'.length cp'] 34 (0, 0))) (.tail _ (.head _))
  rw [hM.out] at h9'
  have y0 := (blk_cell h9' 0).trans rfl
  have y1 := (blk_cell h9' 1).trans rfl
  have y2 := (blk_cell h9' 2).trans rfl
  have y3 := (blk_cell h9' 3).trans rfl
  have y4 := (blk_cell h9' 4).trans rfl
  have y5 := (blk_cell h9' 5).trans rfl
  have y6 := (blk_cell h9' 6).trans rfl
  have y7 := (blk_cell h9' 7).trans rfl
  have z0 := (blk_cell h6 0).trans rfl
  have z1 := (blk_cell h6 1).trans rfl
  have z2 := (blk_cell h6 2).trans rfl
  have z3 := (blk_cell h6 3).trans rfl
  have z4 := (blk_cell h6 4).trans rfl
  have z5 := (blk_cell h6 5).trans rfl
  have z6 := (blk_cell h6 6).trans rfl
  have z7 := (blk_cell h6 7).trans rfl
  have q0 := blk_frozen h6 0
  have q1 := blk_frozen h6 1
  have q2 := blk_frozen h6 2
  have q3 := blk_frozen h6 3
  have q4 := blk_frozen h6 4
  have q5 := blk_frozen h6 5
  have q6 := blk_frozen h6 6
  have q7 := blk_frozen h6 7
  replace hx5 := Aside0.mk hx5
  replace h6 := Aside0.mk h6
  replace h9' := Aside0.mk h9'
  clear hw4 hx4 x0 x1 x2 x3 x4 x5 x6 x7 v0 v1 v2 v3 v4 v5 v6 v7 u0 u1 u2 u3 u4 u5 u6 u7
  go_wp2
  have hne6 : ∀ x ∈ ((w.heap.size + 1 + 1 + 1, Obj.cells #[.int .i64 n.f0, .int .i64 n.f1, .int .i64 n.f2, .int .i64 n.f3, .slice A4 n.f4.length c4, .string n.f5, .slice A6 n.f6.length c6, .slice A' p'.length cp'] 34 (0, 0)) :: os), x.1 ≠ w.heap.size + 1 + 1 := by
    intro x hx
    rcases List.mem_cons.1 hx with rfl | hx
    · show w.heap.size + 1 + 1 + 1 ≠ w.heap.size + 1 + 1; omega
    · have := hlt.out x hx; omega
  have hh := setRef_heap8 (n := n) (A4 := A4) (c4 := c4) (A6 := A6) (c6 := c6) (A := A') (cp := cp') (p := p') h6.out
  unfold setRef at hh
  rw [hM.out] at hh
  have hx6 := (hx5.out.put (setRef_chg (n := n) (A4 := A4) (c4 := c4) (A6 := A6) (c6 := c6) (A := A') (cp := cp') (p := p')) (setRef_heap8 h6.out) hne6).only (rs' := [⟨A', cp', p'⟩]) (os' := os) (fun r hr => hr) (fun x hx => .tail _ (.tail _ hx))
  unfold setRef at hx6
  rw [hM.out] at hx6
  refine bodyPost_ret (results_ctt rfl _ _ (w.heap.size + 1 + 1) 34 _ (0, 0) _ rfl hh Try.underlying34 rfl (by kernel_rfl)) rfl ⟨A', cp', by unfold refV; rw [hM.out]; rfl, hx6⟩
set_option maxHeartbeats 8000000 in
theorem doUp {n : S26} {A4 : Option Addr} {c4 : Nat} {A6 : Option Addr} {c6 : Nat} {A : Option Addr} {cp : Nat} {p p' : List Int} {w0 w : World} {B g : Nat} {os : List (Nat × Obj)} {c c' : Cu} {bo : Bool} {kd dn : Int} (hB : B = w0.heap.size) (hN : NodeR n A4 c4 A6 c6 w0) (h : HeldX B g w0 [⟨A, cp, p⟩] os c w) 
    (hcur : ∀ os' W, HeldX B g w0 [⟨A, cp, p⟩] os' c W → Calls Try.prog 22 #[.pointer (some ⟨g, 0, none⟩)] W fun e w' => e = .returned (.bool bo) ∧ HeldX B g w0 [⟨A, cp, p⟩] os' c' w')
    (href : ∀ W, RefR n A4 c4 A6 c6 A cp p W → Calls Try.prog 34 #[refV n A4 c4 A6 c6 A cp p] W (RefM n A4 c4 A6 c6 A cp p W bo p')) :
    Calls Try.prog 11 #[.pointer (some ⟨g, 0, none⟩), refV n A4 c4 A6 c6 A cp p, .agg #[.int .i64 1, .int .i64 dn]] w (DoPost B g w0 os n A4 c4 A6 c6 p' bo c') := by
  have hu34 := Try.underlying34
  have hu26 := Try.underlying26
  have hu39 := Try.underlying39
  have hx1 : HeldX B g w0 [⟨A, cp, p⟩] ((w.heap.size + 1 + 1 + 1, .cells #[.int .i64 n.f0, .int .i64 n.f1, .int .i64 n.f2, .int .i64 n.f3, .slice A4 n.f4.length c4, .string n.f5, .slice A6 n.f6.length c6, .slice A p.length cp] 34 (0, 0)) :: (w.heap.size + 1 + 1, .cells #[.int .i64 0, .int .i64 0, .int .i64 0, .int .i64 0, .slice none 0 0, .string ⟨#[]⟩, .slice none 0 0, .slice none 0 0] 34 (0, 0)) :: (w.heap.size + 1, .cells #[.int .i64 1, .int .i64 dn] 39 (0, 0)) :: (w.heap.size, .cells #[.int .i64 n.f0, .int .i64 n.f1, .int .i64 n.f2, .int .i64 n.f3, .slice A4 n.f4.length c4, .string n.f5, .slice A6 n.f6.length c6, .slice A p.length cp] 34 (0, 0)) :: os) c ((((w.alloc (.cells #[.int .i64 n.f0, .int .i64 n.f1, .int .i64 n.f2, .int .i64 n.f3, .slice A4 n.f4.length c4, .string n.f5, .slice A6 n.f6.length c6, .slice A p.length cp] 34)).alloc (.cells #[.int .i64 1, .int .i64 dn] 39)).alloc (.cells #[.int .i64 0, .int .i64 0, .int .i64 0, .int .i64 0, .slice none 0 0, .string ⟨#[]⟩, .slice none 0 0, .slice none 0 0] 34)).alloc (.cells #[.int .i64 n.f0, .int .i64 n.f1, .int .i64 n.f2, .int .i64 n.f3, .slice A4 n.f4.length c4, .string n.f5, .slice A6 n.f6.length c6, .slice A p.length cp] 34)) := by
    have := (((h.box (.cells #[.int .i64 n.f0, .int .i64 n.f1, .int .i64 n.f2, .int .i64 n.f3, .slice A4 n.f4.length c4, .string n.f5, .slice A6 n.f6.length c6, .slice A p.length cp] 34)).box (.cells #[.int .i64 1, .int .i64 dn] 39)).box (.cells #[.int .i64 0, .int .i64 0, .int .i64 0, .int .i64 0, .slice none 0 0, .string ⟨#[]⟩, .slice none 0 0, .slice none 0 0] 34)).box (.cells #[.int .i64 n.f0, .int .i64 n.f1, .int .i64 n.f2, .int .i64 n.f3, .slice A4 n.f4.length c4, .string n.f5, .slice A6 n.f6.length c6, .slice A p.length cp] 34)
    simpa only [World.size_alloc] using this
  obtain ⟨L, hL⟩ : ∃ L, p.length = L := ⟨_, rfl⟩
  obtain ⟨M, hM⟩ : ∃ M, p'.length = M := ⟨_, rfl⟩
  obtain ⟨w1, hw1⟩ : ∃ w1, ((((w.alloc (.cells #[.int .i64 n.f0, .int .i64 n.f1, .int .i64 n.f2, .int .i64 n.f3, .slice A4 n.f4.length c4, .string n.f5, .slice A6 n.f6.length c6, .slice A p.length cp] 34)).alloc (.cells #[.int .i64 1, .int .i64 dn] 39)).alloc (.cells #[.int .i64 0, .int .i64 0, .int .i64 0, .int .i64 0, .slice none 0 0, .string ⟨#[]⟩, .slice none 0 0, .slice none 0 0] 34)).alloc (.cells #[.int .i64 n.f0, .int .i64 n.f1, .int .i64 n.f2, .int .i64 n.f3, .slice A4 n.f4.length c4, .string n.f5, .slice A6 n.f6.length c6, .slice A p.length cp] 34)) = w1 := ⟨_, rfl⟩
  rw [hw1] at hx1
  have hD := hx1.get (x := (w.heap.size + 1, .cells #[.int .i64 1, .int .i64 dn] 39 (0, 0))) (.tail _ (.tail _ (.head _)))
  have d0 : w1.cell? ⟨w.heap.size + 1, 0, none⟩ = some (.int .i64 1) := (blk_cell hD 0).trans rfl
  have d1 : w1.cell? ⟨w.heap.size + 1, 1, none⟩ = some (.int .i64 dn) := (blk_cell hD 1).trans rfl
  have hlt : ∀ x ∈ os, x.1 < w.heap.size := fun x hx => (h.lt hx).1
  unfold refV
  rw [hL] at hw1 ⊢
  replace hx1 := Aside0.mk hx1
  replace h := Aside0.mk h
  replace hN := Aside0.mk hN
  replace hB := Aside0.mk hB
  replace hL := Aside0.mk hL
  replace hM := Aside0.mk hM
  replace hcur := Aside0.mk hcur
  replace href := Aside0.mk href
  replace hlt := Aside0.mk hlt
  clear hD
  go_enter Try.func11, Try.ntmps11
  go_upto_region 17 with (first
    | (go_at_call 34; refine hr.out.mono ?_; rintro e w3 ⟨A', cp', rfl, lp3, hp3, hb3⟩; have hx3 := hx2.out.refRow hb3 (by rw [hM.out]; exact lp3) (by rw [hM.out]; exact hp3); have h9 := (hx3.get (x := (w.heap.size + 1 + 1 + 1, .cells #[.int .i64 n.f0, .int .i64 n.f1, .int .i64 n.f2, .int .i64 n.f3, .slice A4 n.f4.length c4, .string n.f5, .slice A6 n.f6.length c6, .slice A p.length cp] 34 (0, 0))) (.head _)); rw [hL.out] at h9; have v0 := (blk_cell h9 0).trans rfl; have v1 := (blk_cell h9 1).trans rfl; have v2 := (blk_cell h9 2).trans rfl; have v3 := (blk_cell h9 3).trans rfl; have v4 := (blk_cell h9 4).trans rfl; have v5 := (blk_cell h9 5).trans rfl; have v6 := (blk_cell h9 6).trans rfl; have v7 := (blk_cell h9 7).trans rfl; have u0 := blk_frozen h9 0; have u1 := blk_frozen h9 1; have u2 := blk_frozen h9 2; have u3 := blk_frozen h9 3; have u4 := blk_frozen h9 4; have u5 := blk_frozen h9 5; have u6 := blk_frozen h9 6; have u7 := blk_frozen h9 7; replace hx3 := Aside0.mk hx3; replace h9 := Aside0.mk h9; clear hb3 hp3 lp3)
    | (go_at_call 22; refine (hcur.out _ _ hx1.out).mono ?_; rintro e w2 ⟨rfl, hx2⟩; have hr := href.out w2 (hN.out.refR hB.out hx2 (r := ⟨A, cp, p⟩) (.head _)); unfold RefM refV at hr; rw [hL.out, hM.out] at hr; have hX := (hx2.get (x := (w.heap.size, .cells #[.int .i64 n.f0, .int .i64 n.f1, .int .i64 n.f2, .int .i64 n.f3, .slice A4 n.f4.length c4, .string n.f5, .slice A6 n.f6.length c6, .slice A p.length cp] 34 (0, 0))) (.tail _ (.tail _ (.tail _ (.head _))))); rw [hL.out] at hX; have x0 := (blk_cell hX 0).trans rfl; have x1 := (blk_cell hX 1).trans rfl; have x2 := (blk_cell hX 2).trans rfl; have x3 := (blk_cell hX 3).trans rfl; have x4 := (blk_cell hX 4).trans rfl; have x5 := (blk_cell hX 5).trans rfl; have x6 := (blk_cell hX 6).trans rfl; have x7 := (blk_cell hX 7).trans rfl; have hDD := (hx2.get (x := (w.heap.size + 1, .cells #[.int .i64 1, .int .i64 dn] 39 (0, 0))) (.tail _ (.tail _ (.head _)))); have dd0 := (blk_cell hDD 0).trans rfl; have dd1 := (blk_cell hDD 1).trans rfl; replace hX := Aside0.mk hX; replace hDD := Aside0.mk hDD; replace hr := Aside0.mk hr; replace hx2 := Aside0.mk hx2))
  obtain ⟨w4, hw4⟩ : ∃ w4, setRef w3 (w.heap.size + 1 + 1 + 1) n A4 c4 A6 c6 A' cp' p' = w4 := ⟨_, rfl⟩
  have hx4 : HeldX B g w0 [⟨A', cp', p'⟩] ((w.heap.size + 1 + 1 + 1, .cells #[.int .i64 n.f0, .int .i64 n.f1, .int .i64 n.f2, .int .i64 n.f3, .slice A4 n.f4.length c4, .string n.f5, .slice A6 n.f6.length c6, .slice A' p'.length cp'] 34 (0, 0)) :: (w.heap.size + 1 + 1, .cells #[.int .i64 0, .int .i64 0, .int .i64 0, .int .i64 0, .slice none 0 0, .string ⟨#[]⟩, .slice none 0 0, .slice none 0 0] 34 (0, 0)) :: (w.heap.size + 1, .cells #[.int .i64 1, .int .i64 dn] 39 (0, 0)) :: (w.heap.size, .cells #[.int .i64 n.f0, .int .i64 n.f1, .int .i64 n.f2, .int .i64 n.f3, .slice A4 n.f4.length c4, .string n.f5, .slice A6 n.f6.length c6, .slice A p.length cp] 34 (0, 0)) :: os) c' w4 := by
    rw [← hw4]
    refine hx3.out.put setRef_chg (setRef_heap8 (hx3.out.get (.head _))) (fun x hx => ?_)
    rcases List.mem_cons.1 hx with rfl | hx
    · show w.heap.size + 1 + 1 ≠ w.heap.size + 1 + 1 + 1; omega
    rcases List.mem_cons.1 hx with rfl | hx
    · show w.heap.size + 1 ≠ w.heap.size + 1 + 1 + 1; omega
    rcases List.mem_cons.1 hx with rfl | hx
    · show w.heap.size ≠ w.heap.size + 1 + 1 + 1; omega
    have := hlt.out x hx
    omega
  unfold setRef at hw4
  rw [hM.out] at hw4
  rw [hw4]
  have hx5 := hx4.only (rs' := [⟨A', cp', p'⟩]) (os' := (w.heap.size + 1 + 1, .cells #[.int .i64 0, .int .i64 0, .int .i64 0, .int .i64 0, .slice none 0 0, .string ⟨#[]⟩, .slice none 0 0, .slice none 0 0] 34 (0, 0)) :: (w.heap.size + 1 + 1 + 1, .cells #[.int .i64 n.f0, .int .i64 n.f1, .int .i64 n.f2, .int .i64 n.f3, .slice A4 n.f4.length c4, .string n.f5, .slice A6 n.f6.length c6, .slice A' p'.length cp'] 34 (0, 0)) :: os) (fun r hr => hr) (fun x hx => by
    rcases List.mem_cons.1 hx with rfl | hx
    · exact .tail _ (.head _)
    rcases List.mem_cons.1 hx with rfl | hx
    · exact .head _
    exact .tail _ (.tail _ (.tail _ (.tail _ hx))))
  have h6 := hx5.get (.head _)
  have h9' := hx5.get (x := (w.heap.size + 1 + 1 + 1, .cells #[.int .i64 n.f0, .int .i64 n.f1, .int .i64 n.f2, .int .i64 n.f3, .slice A4 n.f4.length c4, .string n.f5, .slice A6 n.f6.length c6, .slice A' p'.length cp'] 34 (0, 0))) (.tail _ (.head _))
  rw [hM.out] at h9'
  have y0 := (blk_cell h9' 0).trans rfl
  have y1 := (blk_cell h9' 1).trans rfl
  have y2 := (blk_cell h9' 2).trans rfl
  have y3 := (blk_cell h9' 3).trans rfl
  have y4 := (blk_cell h9' 4).trans rfl
  have y5 := (blk_cell h9' 5).trans rfl
  have y6 := (blk_cell h9' 6).trans rfl
  have y7 := (blk_cell h9' 7).trans rfl
  have z0 := (blk_cell h6 0).trans rfl
  have z1 := (blk_cell h6 1).trans rfl
  have z2 := (blk_cell h6 2).trans rfl
  have z3 := (blk_cell h6 3).trans rfl
  have z4 := (blk_cell h6 4).trans rfl
  have z5 := (blk_cell h6 5).trans rfl
  have z6 := (blk_cell h6 6).trans rfl
  have z7 := (blk_cell h6 7).trans rfl
  have q0 := blk_frozen h6 0
  have q1 := blk_frozen h6 1
  have q2 := blk_frozen h6 2
  have q3 := blk_frozen h6 3
  have q4 := blk_frozen h6 4
  have q5 := blk_frozen h6 5
  have q6 := blk_frozen h6 6
  have q7 := blk_frozen h6 7
  replace hx5 := Aside0.mk hx5
  replace h6 := Aside0.mk h6
  replace h9' := Aside0.mk h9'
  clear hw4 hx4 x0 x1 x2 x3 x4 x5 x6 x7 v0 v1 v2 v3 v4 v5 v6 v7 u0 u1 u2 u3 u4 u5 u6 u7
  go_wp2
  have hne6 : ∀ x ∈ ((w.heap.size + 1 + 1 + 1, Obj.cells #[.int .i64 n.f0, .int .i64 n.f1, .int .i64 n.f2, .int .i64 n.f3, .slice A4 n.f4.length c4, .string n.f5, .slice A6 n.f6.length c6, .slice A' p'.length cp'] 34 (0, 0)) :: os), x.1 ≠ w.heap.size + 1 + 1 := by
    intro x hx
    rcases List.mem_cons.1 hx with rfl | hx
    · show w.heap.size + 1 + 1 + 1 ≠ w.heap.size + 1 + 1; omega
    · have := hlt.out x hx; omega
  have hh := setRef_heap8 (n := n) (A4 := A4) (c4 := c4) (A6 := A6) (c6 := c6) (A := A') (cp := cp') (p := p') h6.out
  unfold setRef at hh
  rw [hM.out] at hh
  have hx6 := (hx5.out.put (setRef_chg (n := n) (A4 := A4) (c4 := c4) (A6 := A6) (c6 := c6) (A := A') (cp := cp') (p := p')) (setRef_heap8 h6.out) hne6).only (rs' := [⟨A', cp', p'⟩]) (os' := os) (fun r hr => hr) (fun x hx => .tail _ (.tail _ hx))
  unfold setRef at hx6
  rw [hM.out] at hx6
  refine bodyPost_ret (results_ctt rfl _ _ (w.heap.size + 1 + 1) 34 _ (0, 0) _ rfl hh Try.underlying34 rfl (by kernel_rfl)) rfl ⟨A', cp', by unfold refV; rw [hM.out]; rfl, hx6⟩
set_option maxHeartbeats 8000000 in
theorem doNext {n : S26} {A4 : Option Addr} {c4 : Nat} {A6 : Option Addr} {c6 : Nat} {A : Option Addr} {cp : Nat} {p p' : List Int} {w0 w : World} {B g : Nat} {os : List (Nat × Obj)} {c c' : Cu} {bo : Bool} {kd dn : Int} (hB : B = w0.heap.size) (hN : NodeR n A4 c4 A6 c6 w0) (h : HeldX B g w0 [⟨A, cp, p⟩] os c w) 
    (hcur : ∀ os' W, HeldX B g w0 [⟨A, cp, p⟩] os' c W → Calls Try.prog 23 #[.pointer (some ⟨g, 0, none⟩)] W fun e w' => e = .returned (.bool bo) ∧ HeldX B g w0 [⟨A, cp, p⟩] os' c' w')
    (href : ∀ W, RefR n A4 c4 A6 c6 A cp p W → Calls Try.prog 35 #[refV n A4 c4 A6 c6 A cp p] W (RefM n A4 c4 A6 c6 A cp p W bo p')) :
    Calls Try.prog 11 #[.pointer (some ⟨g, 0, none⟩), refV n A4 c4 A6 c6 A cp p, .agg #[.int .i64 2, .int .i64 dn]] w (DoPost B g w0 os n A4 c4 A6 c6 p' bo c') := by
  have hu34 := Try.underlying34
  have hu26 := Try.underlying26
  have hu39 := Try.underlying39
  have hx1 : HeldX B g w0 [⟨A, cp, p⟩] ((w.heap.size + 1 + 1 + 1, .cells #[.int .i64 n.f0, .int .i64 n.f1, .int .i64 n.f2, .int .i64 n.f3, .slice A4 n.f4.length c4, .string n.f5, .slice A6 n.f6.length c6, .slice A p.length cp] 34 (0, 0)) :: (w.heap.size + 1 + 1, .cells #[.int .i64 0, .int .i64 0, .int .i64 0, .int .i64 0, .slice none 0 0, .string ⟨#[]⟩, .slice none 0 0, .slice none 0 0] 34 (0, 0)) :: (w.heap.size + 1, .cells #[.int .i64 2, .int .i64 dn] 39 (0, 0)) :: (w.heap.size, .cells #[.int .i64 n.f0, .int .i64 n.f1, .int .i64 n.f2, .int .i64 n.f3, .slice A4 n.f4.length c4, .string n.f5, .slice A6 n.f6.length c6, .slice A p.length cp] 34 (0, 0)) :: os) c ((((w.alloc (.cells #[.int .i64 n.f0, .int .i64 n.f1, .int .i64 n.f2, .int .i64 n.f3, .slice A4 n.f4.length c4, .string n.f5, .slice A6 n.f6.length c6, .slice A p.length cp] 34)).alloc (.cells #[.int .i64 2, .int .i64 dn] 39)).alloc (.cells #[.int .i64 0, .int .i64 0, .int .i64 0, .int .i64 0, .slice none 0 0, .string ⟨#[]⟩, .slice none 0 0, .slice none 0 0] 34)).alloc (.cells #[.int .i64 n.f0, .int .i64 n.f1, .int .i64 n.f2, .int .i64 n.f3, .slice A4 n.f4.length c4, .string n.f5, .slice A6 n.f6.length c6, .slice A p.length cp] 34)) := by
    have := (((h.box (.cells #[.int .i64 n.f0, .int .i64 n.f1, .int .i64 n.f2, .int .i64 n.f3, .slice A4 n.f4.length c4, .string n.f5, .slice A6 n.f6.length c6, .slice A p.length cp] 34)).box (.cells #[.int .i64 2, .int .i64 dn] 39)).box (.cells #[.int .i64 0, .int .i64 0, .int .i64 0, .int .i64 0, .slice none 0 0, .string ⟨#[]⟩, .slice none 0 0, .slice none 0 0] 34)).box (.cells #[.int .i64 n.f0, .int .i64 n.f1, .int .i64 n.f2, .int .i64 n.f3, .slice A4 n.f4.length c4, .string n.f5, .slice A6 n.f6.length c6, .slice A p.length cp] 34)
    simpa only [World.size_alloc] using this
  obtain ⟨L, hL⟩ : ∃ L, p.length = L := ⟨_, rfl⟩
  obtain ⟨M, hM⟩ : ∃ M, p'.length = M := ⟨_, rfl⟩
  obtain ⟨w1, hw1⟩ : ∃ w1, ((((w.alloc (.cells #[.int .i64 n.f0, .int .i64 n.f1, .int .i64 n.f2, .int .i64 n.f3, .slice A4 n.f4.length c4, .string n.f5, .slice A6 n.f6.length c6, .slice A p.length cp] 34)).alloc (.cells #[.int .i64 2, .int .i64 dn] 39)).alloc (.cells #[.int .i64 0, .int .i64 0, .int .i64 0, .int .i64 0, .slice none 0 0, .string ⟨#[]⟩, .slice none 0 0, .slice none 0 0] 34)).alloc (.cells #[.int .i64 n.f0, .int .i64 n.f1, .int .i64 n.f2, .int .i64 n.f3, .slice A4 n.f4.length c4, .string n.f5, .slice A6 n.f6.length c6, .slice A p.length cp] 34)) = w1 := ⟨_, rfl⟩
  rw [hw1] at hx1
  have hD := hx1.get (x := (w.heap.size + 1, .cells #[.int .i64 2, .int .i64 dn] 39 (0, 0))) (.tail _ (.tail _ (.head _)))
  have d0 : w1.cell? ⟨w.heap.size + 1, 0, none⟩ = some (.int .i64 2) := (blk_cell hD 0).trans rfl
  have d1 : w1.cell? ⟨w.heap.size + 1, 1, none⟩ = some (.int .i64 dn) := (blk_cell hD 1).trans rfl
  have hlt : ∀ x ∈ os, x.1 < w.heap.size := fun x hx => (h.lt hx).1
  unfold refV
  rw [hL] at hw1 ⊢
  replace hx1 := Aside0.mk hx1
  replace h := Aside0.mk h
  replace hN := Aside0.mk hN
  replace hB := Aside0.mk hB
  replace hL := Aside0.mk hL
  replace hM := Aside0.mk hM
  replace hcur := Aside0.mk hcur
  replace href := Aside0.mk href
  replace hlt := Aside0.mk hlt
  clear hD
  go_enter Try.func11, Try.ntmps11
  go_upto_region 17 with (first
    | (go_at_call 35; refine hr.out.mono ?_; rintro e w3 ⟨A', cp', rfl, lp3, hp3, hb3⟩; have hx3 := hx2.out.refRow hb3 (by rw [hM.out]; exact lp3) (by rw [hM.out]; exact hp3); have h9 := (hx3.get (x := (w.heap.size + 1 + 1 + 1, .cells #[.int .i64 n.f0, .int .i64 n.f1, .int .i64 n.f2, .int .i64 n.f3, .slice A4 n.f4.length c4, .string n.f5, .slice A6 n.f6.length c6, .slice A p.length cp] 34 (0, 0))) (.head _)); rw [hL.out] at h9; have v0 := (blk_cell h9 0).trans rfl; have v1 := (blk_cell h9 1).trans rfl; have v2 := (blk_cell h9 2).trans rfl; have v3 := (blk_cell h9 3).trans rfl; have v4 := (blk_cell h9 4).trans rfl; have v5 := (blk_cell h9 5).trans rfl; have v6 := (blk_cell h9 6).trans rfl; have v7 := (blk_cell h9 7).trans rfl; have u0 := blk_frozen h9 0; have u1 := blk_frozen h9 1; have u2 := blk_frozen h9 2; have u3 := blk_frozen h9 3; have u4 := blk_frozen h9 4; have u5 := blk_frozen h9 5; have u6 := blk_frozen h9 6; have u7 := blk_frozen h9 7; replace hx3 := Aside0.mk hx3; replace h9 := Aside0.mk h9; clear hb3 hp3 lp3)
    | (go_at_call 23; refine (hcur.out _ _ hx1.out).mono ?_; rintro e w2 ⟨rfl, hx2⟩; have hr := href.out w2 (hN.out.refR hB.out hx2 (r := ⟨A, cp, p⟩) (.head _)); unfold RefM refV at hr; rw [hL.out, hM.out] at hr; have hX := (hx2.get (x := (w.heap.size, .cells #[.int .i64 n.f0, .int .i64 n.f1, .int .i64 n.f2, .int .i64 n.f3, .slice A4 n.f4.length c4, .string n.f5, .slice A6 n.f6.length c6, .slice A p.length cp] 34 (0, 0))) (.tail _ (.tail _ (.tail _ (.head _))))); rw [hL.out] at hX; have x0 := (blk_cell hX 0).trans rfl; have x1 := (blk_cell hX 1).trans rfl; have x2 := (blk_cell hX 2).trans rfl; have x3 := (blk_cell hX 3).trans rfl; have x4 := (blk_cell hX 4).trans rfl; have x5 := (blk_cell hX 5).trans rfl; have x6 := (blk_cell hX 6).trans rfl; have x7 := (blk_cell hX 7).trans rfl; have hDD := (hx2.get (x := (w.heap.size + 1, .cells #[.int .i64 2, .int .i64 dn] 39 (0, 0))) (.tail _ (.tail _ (.head _)))); have dd0 := (blk_cell hDD 0).trans rfl; have dd1 := (blk_cell hDD 1).trans rfl; replace hX := Aside0.mk hX; replace hDD := Aside0.mk hDD; replace hr := Aside0.mk hr; replace hx2 := Aside0.mk hx2))
  obtain ⟨w4, hw4⟩ : ∃ w4, setRef w3 (w.heap.size + 1 + 1 + 1) n A4 c4 A6 c6 A' cp' p' = w4 := ⟨_, rfl⟩
  have hx4 : HeldX B g w0 [⟨A', cp', p'⟩] ((w.heap.size + 1 + 1 + 1, .cells #[.int .i64 n.f0, .int .i64 n.f1, .int .i64 n.f2, .int .i64 n.f3, .slice A4 n.f4.length c4, .string n.f5, .slice A6 n.f6.length c6, .slice A' p'.length cp'] 34 (0, 0)) :: (w.heap.size + 1 + 1, .cells #[.int .i64 0, .int .i64 0, .int .i64 0, .int .i64 0, .slice none 0 0, .string ⟨#[]⟩, .slice none 0 0, .slice none 0 0] 34 (0, 0)) :: (w.heap.size + 1, .cells #[.int .i64 2, .int .i64 dn] 39 (0, 0)) :: (w.heap.size, .cells #[.int .i64 n.f0, .int .i64 n.f1, .int .i64 n.f2, .int .i64 n.f3, .slice A4 n.f4.length c4, .string n.f5, .slice A6 n.f6.length c6, .slice A p.length cp] 34 (0, 0)) :: os) c' w4 := by
    rw [← hw4]
    refine hx3.out.put setRef_chg (setRef_heap8 (hx3.out.get (.head _))) (fun x hx => ?_)
    rcases List.mem_cons.1 hx with rfl | hx
    · show w.heap.size + 1 + 1 ≠ w.heap.size + 1 + 1 + 1; omega
    rcases List.mem_cons.1 hx with rfl | hx
    · show w.heap.size + 1 ≠ w.heap.size + 1 + 1 + 1; omega
    rcases List.mem_cons.1 hx with rfl | hx
    · show w.heap.size ≠ w.heap.size + 1 + 1 + 1; omega
    have := hlt.out x hx
    omega
  unfold setRef at hw4
  rw [hM.out] at hw4
  rw [hw4]
  have hx5 := hx4.only (rs' := [⟨A', cp', p'⟩]) (os' := (w.heap.size + 1 + 1, .cells #[.int .i64 0, .int .i64 0, .int .i64 0, .int .i64 0, .slice none 0 0, .string ⟨#[]⟩, .slice none 0 0, .slice none 0 0] 34 (0, 0)) :: (w.heap.size + 1 + 1 + 1, .cells #[.int .i64 n.f0, .int .i64 n.f1, .int .i64 n.f2, .int .i64 n.f3, .slice A4 n.f4.length c4, .string n.f5, .slice A6 n.f6.length c6, .slice A' p'.length cp'] 34 (0, 0)) :: os) (fun r hr => hr) (fun x hx => by
    rcases List.mem_cons.1 hx with rfl | hx
    · exact .tail _ (.head _)
    rcases List.mem_cons.1 hx with rfl | hx
    · exact .head _
    exact .tail _ (.tail _ (.tail _ (.tail _ hx))))
  have h6 := hx5.get (.head _)
  have h9' := hx5.get (x := (w.heap.size + 1 + 1 + 1, .cells #[.int .i64 n.f0, .int .i64 n.f1, .int .i64 n.f2, .int .i64 n.f3, .slice A4 n.f4.length c4, .string n.f5, .slice A6 n.f6.length c6, .slice A' p'.length cp'] 34 (0, 0))) (.tail _ (.head _))
  rw [hM.out] at h9'
  have y0 := (blk_cell h9' 0).trans rfl
  have y1 := (blk_cell h9' 1).trans rfl
  have y2 := (blk_cell h9' 2).trans rfl
  have y3 := (blk_cell h9' 3).trans rfl
  have y4 := (blk_cell h9' 4).trans rfl
  have y5 := (blk_cell h9' 5).trans rfl
  have y6 := (blk_cell h9' 6).trans rfl
  have y7 := (blk_cell h9' 7).trans rfl
  have z0 := (blk_cell h6 0).trans rfl
  have z1 := (blk_cell h6 1).trans rfl
  have z2 := (blk_cell h6 2).trans rfl
  have z3 := (blk_cell h6 3).trans rfl
  have z4 := (blk_cell h6 4).trans rfl
  have z5 := (blk_cell h6 5).trans rfl
  have z6 := (blk_cell h6 6).trans rfl
  have z7 := (blk_cell h6 7).trans rfl
  have q0 := blk_frozen h6 0
  have q1 := blk_frozen h6 1
  have q2 := blk_frozen h6 2
  have q3 := blk_frozen h6 3
  have q4 := blk_frozen h6 4
  have q5 := blk_frozen h6 5
  have q6 := blk_frozen h6 6
  have q7 := blk_frozen h6 7
  replace hx5 := Aside0.mk hx5
  replace h6 := Aside0.mk h6
  replace h9' := Aside0.mk h9'
  clear hw4 hx4 x0 x1 x2 x3 x4 x5 x6 x7 v0 v1 v2 v3 v4 v5 v6 v7 u0 u1 u2 u3 u4 u5 u6 u7
  go_wp2
  have hne6 : ∀ x ∈ ((w.heap.size + 1 + 1 + 1, Obj.cells #[.int .i64 n.f0, .int .i64 n.f1, .int .i64 n.f2, .int .i64 n.f3, .slice A4 n.f4.length c4, .string n.f5, .slice A6 n.f6.length c6, .slice A' p'.length cp'] 34 (0, 0)) :: os), x.1 ≠ w.heap.size + 1 + 1 := by
    intro x hx
    rcases List.mem_cons.1 hx with rfl | hx
    · show w.heap.size + 1 + 1 + 1 ≠ w.heap.size + 1 + 1; omega
    · have := hlt.out x hx; omega
  have hh := setRef_heap8 (n := n) (A4 := A4) (c4 := c4) (A6 := A6) (c6 := c6) (A := A') (cp := cp') (p := p') h6.out
  unfold setRef at hh
  rw [hM.out] at hh
  have hx6 := (hx5.out.put (setRef_chg (n := n) (A4 := A4) (c4 := c4) (A6 := A6) (c6 := c6) (A := A') (cp := cp') (p := p')) (setRef_heap8 h6.out) hne6).only (rs' := [⟨A', cp', p'⟩]) (os' := os) (fun r hr => hr) (fun x hx => .tail _ (.tail _ hx))
  unfold setRef at hx6
  rw [hM.out] at hx6
  refine bodyPost_ret (results_ctt rfl _ _ (w.heap.size + 1 + 1) 34 _ (0, 0) _ rfl hh Try.underlying34 rfl (by kernel_rfl)) rfl ⟨A', cp', by unfold refV; rw [hM.out]; rfl, hx6⟩
set_option maxHeartbeats 8000000 in
theorem doPrev {n : S26} {A4 : Option Addr} {c4 : Nat} {A6 : Option Addr} {c6 : Nat} {A : Option Addr} {cp : Nat} {p p' : List Int} {w0 w : World} {B g : Nat} {os : List (Nat × Obj)} {c c' : Cu} {bo : Bool} {kd dn : Int} (hB : B = w0.heap.size) (hN : NodeR n A4 c4 A6 c6 w0) (h : HeldX B g w0 [⟨A, cp, p⟩] os c w) 
    (hcur : ∀ os' W, HeldX B g w0 [⟨A, cp, p⟩] os' c W → Calls Try.prog 24 #[.pointer (some ⟨g, 0, none⟩)] W fun e w' => e = .returned (.bool bo) ∧ HeldX B g w0 [⟨A, cp, p⟩] os' c' w')
    (href : ∀ W, RefR n A4 c4 A6 c6 A cp p W → Calls Try.prog 36 #[refV n A4 c4 A6 c6 A cp p] W (RefM n A4 c4 A6 c6 A cp p W bo p')) :
    Calls Try.prog 11 #[.pointer (some ⟨g, 0, none⟩), refV n A4 c4 A6 c6 A cp p, .agg #[.int .i64 3, .int .i64 dn]] w (DoPost B g w0 os n A4 c4 A6 c6 p' bo c') := by
  have hu34 := Try.underlying34
  have hu26 := Try.underlying26
  have hu39 := Try.underlying39
  have hx1 : HeldX B g w0 [⟨A, cp, p⟩] ((w.heap.size + 1 + 1 + 1, .cells #[.int .i64 n.f0, .int .i64 n.f1, .int .i64 n.f2, .int .i64 n.f3, .slice A4 n.f4.length c4, .string n.f5, .slice A6 n.f6.length c6, .slice A p.length cp] 34 (0, 0)) :: (w.heap.size + 1 + 1, .cells #[.int .i64 0, .int .i64 0, .int .i64 0, .int .i64 0, .slice none 0 0, .string ⟨#[]⟩, .slice none 0 0, .slice none 0 0] 34 (0, 0)) :: (w.heap.size + 1, .cells #[.int .i64 3, .int .i64 dn] 39 (0, 0)) :: (w.heap.size, .cells #[.int .i64 n.f0, .int .i64 n.f1, .int .i64 n.f2, .int .i64 n.f3, .slice A4 n.f4.length c4, .string n.f5, .slice A6 n.f6.length c6, .slice A p.length cp] 34 (0, 0)) :: os) c ((((w.alloc (.cells #[.int .i64 n.f0, .int .i64 n.f1, .int .i64 n.f2, .int .i64 n.f3, .slice A4 n.f4.length c4, .string n.f5, .slice A6 n.f6.length c6, .slice A p.length cp] 34)).alloc (.cells #[.int .i64 3, .int .i64 dn] 39)).alloc (.cells #[.int .i64 0, .int .i64 0, .int .i64 0, .int .i64 0, .slice none 0 0, .string ⟨#[]⟩, .slice none 0 0, .slice none 0 0] 34)).alloc (.cells #[.int .i64 n.f0, .int .i64 n.f1, .int .i64 n.f2, .int .i64 n.f3, .slice A4 n.f4.length c4, .string n.f5, .slice A6 n.f6.length c6, .slice A p.length cp] 34)) := by
    have := (((h.box (.cells #[.int .i64 n.f0, .int .i64 n.f1, .int .i64 n.f2, .int .i64 n.f3, .slice A4 n.f4.length c4, .string n.f5, .slice A6 n.f6.length c6, .slice A p.length cp] 34)).box (.cells #[.int .i64 3, .int .i64 dn] 39)).box (.cells #[.int .i64 0, .int .i64 0, .int .i64 0, .int .i64 0, .slice none 0 0, .string ⟨#[]⟩, .slice none 0 0, .slice none 0 0] 34)).box (.cells #[.int .i64 n.f0, .int .i64 n.f1, .int .i64 n.f2, .int .i64 n.f3, .slice A4 n.f4.length c4, .string n.f5, .slice A6 n.f6.length c6, .slice A p.length cp] 34)
    simpa only [World.size_alloc] using this
  obtain ⟨L, hL⟩ : ∃ L, p.length = L := ⟨_, rfl⟩
  obtain ⟨M, hM⟩ : ∃ M, p'.length = M := ⟨_, rfl⟩
  obtain ⟨w1, hw1⟩ : ∃ w1, ((((w.alloc (.cells #[.int .i64 n.f0, .int .i64 n.f1, .int .i64 n.f2, .int .i64 n.f3, .slice A4 n.f4.length c4, .string n.f5, .slice A6 n.f6.length c6, .slice A p.length cp] 34)).alloc (.cells #[.int .i64 3, .int .i64 dn] 39)).alloc (.cells #[.int .i64 0, .int .i64 0, .int .i64 0, .int .i64 0, .slice none 0 0, .string ⟨#[]⟩, .slice none 0 0, .slice none 0 0] 34)).alloc (.cells #[.int .i64 n.f0, .int .i64 n.f1, .int .i64 n.f2, .int .i64 n.f3, .slice A4 n.f4.length c4, .string n.f5, .slice A6 n.f6.length c6, .slice A p.length cp] 34)) = w1 := ⟨_, rfl⟩
  rw [hw1] at hx1
  have hD := hx1.get (x := (w.heap.size + 1, .cells #[.int .i64 3, .int .i64 dn] 39 (0, 0))) (.tail _ (.tail _ (.head _)))
  have d0 : w1.cell? ⟨w.heap.size + 1, 0, none⟩ = some (.int .i64 3) := (blk_cell hD 0).trans rfl
  have d1 : w1.cell? ⟨w.heap.size + 1, 1, none⟩ = some (.int .i64 dn) := (blk_cell hD 1).trans rfl
  have hlt : ∀ x ∈ os, x.1 < w.heap.size := fun x hx => (h.lt hx).1
  unfold refV
  rw [hL] at hw1 ⊢
  replace hx1 := Aside0.mk hx1
  replace h := Aside0.mk h
  replace hN := Aside0.mk hN
  replace hB := Aside0.mk hB
  replace hL := Aside0.mk hL
  replace hM := Aside0.mk hM
  replace hcur := Aside0.mk hcur
  replace href := Aside0.mk href
  replace hlt := Aside0.mk hlt
  clear hD
  go_enter Try.func11, Try.ntmps11
  go_upto_region 17 with (first
    | (go_at_call 36; refine hr.out.mono ?_; rintro e w3 ⟨A', cp', rfl, lp3, hp3, hb3⟩; have hx3 := hx2.out.refRow hb3 (by rw [hM.out]; exact lp3) (by rw [hM.out]; exact hp3); have h9 := (hx3.get (x := (w.heap.size + 1 + 1 + 1, .cells #[.int .i64 n.f0, .int .i64 n.f1, .int .i64 n.f2, .int .i64 n.f3, .slice A4 n.f4.length c4, .string n.f5, .slice A6 n.f6.length c6, .slice A p.length cp] 34 (0, 0))) (.head _)); rw [hL.out] at h9; have v0 := (blk_cell h9 0).trans rfl; have v1 := (blk_cell h9 1).trans rfl; have v2 := (blk_cell h9 2).trans rfl; have v3 := (blk_cell h9 3).trans rfl; have v4 := (blk_cell h9 4).trans rfl; have v5 := (blk_cell h9 5).trans rfl; have v6 := (blk_cell h9 6).trans rfl; have v7 := (blk_cell h9 7).trans rfl; have u0 := blk_frozen h9 0; have u1 := blk_frozen h9 1; have u2 := blk_frozen h9 2; have u3 := blk_frozen h9 3; have u4 := blk_frozen h9 4; have u5 := blk_frozen h9 5; have u6 := blk_frozen h9 6; have u7 := blk_frozen h9 7; replace hx3 := Aside0.mk hx3; replace h9 := Aside0.mk h9; clear hb3 hp3 lp3)
    | (go_at_call 24; refine (hcur.out _ _ hx1.out).mono ?_; rintro e w2 ⟨rfl, hx2⟩; have hr := href.out w2 (hN.out.refR hB.out hx2 (r := ⟨A, cp, p⟩) (.head _)); unfold RefM refV at hr; rw [hL.out, hM.out] at hr; have hX := (hx2.get (x := (w.heap.size, .cells #[.int .i64 n.f0, .int .i64 n.f1, .int .i64 n.f2, .int .i64 n.f3, .slice A4 n.f4.length c4, .string n.f5, .slice A6 n.f6.length c6, .slice A p.length cp] 34 (0, 0))) (.tail _ (.tail _ (.tail _ (.head _))))); rw [hL.out] at hX; have x0 := (blk_cell hX 0).trans rfl; have x1 := (blk_cell hX 1).trans rfl; have x2 := (blk_cell hX 2).trans rfl; have x3 := (blk_cell hX 3).trans rfl; have x4 := (blk_cell hX 4).trans rfl; have x5 := (blk_cell hX 5).trans rfl; have x6 := (blk_cell hX 6).trans rfl; have x7 := (blk_cell hX 7).trans rfl; have hDD := (hx2.get (x := (w.heap.size + 1, .cells #[.int .i64 3, .int .i64 dn] 39 (0, 0))) (.tail _ (.tail _ (.head _)))); have dd0 := (blk_cell hDD 0).trans rfl; have dd1 := (blk_cell hDD 1).trans rfl; replace hX := Aside0.mk hX; replace hDD := Aside0.mk hDD; replace hr := Aside0.mk hr; replace hx2 := Aside0.mk hx2))
  obtain ⟨w4, hw4⟩ : ∃ w4, setRef w3 (w.heap.size + 1 + 1 + 1) n A4 c4 A6 c6 A' cp' p' = w4 := ⟨_, rfl⟩
  have hx4 : HeldX B g w0 [⟨A', cp', p'⟩] ((w.heap.size + 1 + 1 + 1, .cells #[.int .i64 n.f0, .int .i64 n.f1, .int .i64 n.f2, .int .i64 n.f3, .slice A4 n.f4.length c4, .string n.f5, .slice A6 n.f6.length c6, .slice A' p'.length cp'] 34 (0, 0)) :: (w.heap.size + 1 + 1, .cells #[.int .i64 0, .int .i64 0, .int .i64 0, .int .i64 0, .slice none 0 0, .string ⟨#[]⟩, .slice none 0 0, .slice none 0 0] 34 (0, 0)) :: (w.heap.size + 1, .cells #[.int .i64 3, .int .i64 dn] 39 (0, 0)) :: (w.heap.size, .cells #[.int .i64 n.f0, .int .i64 n.f1, .int .i64 n.f2, .int .i64 n.f3, .slice A4 n.f4.length c4, .string n.f5, .slice A6 n.f6.length c6, .slice A p.length cp] 34 (0, 0)) :: os) c' w4 := by
    rw [← hw4]
    refine hx3.out.put setRef_chg (setRef_heap8 (hx3.out.get (.head _))) (fun x hx => ?_)
    rcases List.mem_cons.1 hx with rfl | hx
    · show w.heap.size + 1 + 1 ≠ w.heap.size + 1 + 1 + 1; omega
    rcases List.mem_cons.1 hx with rfl | hx
    · show w.heap.size + 1 ≠ w.heap.size + 1 + 1 + 1; omega
    rcases List.mem_cons.1 hx with rfl | hx
    · show w.heap.size ≠ w.heap.size + 1 + 1 + 1; omega
    have := hlt.out x hx
    omega
  unfold setRef at hw4
  rw [hM.out] at hw4
  rw [hw4]
  have hx5 := hx4.only (rs' := [⟨A', cp', p'⟩]) (os' := (w.heap.size + 1 + 1, .cells #[.int .i64 0, .int .i64 0, .int .i64 0, .int .i64 0, .slice none 0 0, .string ⟨#[]⟩, .slice none 0 0, .slice none 0 0] 34 (0, 0)) :: (w.heap.size + 1 + 1 + 1, .cells #[.int .i64 n.f0, .int .i64 n.f1, .int .i64 n.f2, .int .i64 n.f3, .slice A4 n.f4.length c4, .string n.f5, .slice A6 n.f6.length c6, .slice A' p'.length cp'] 34 (0, 0)) :: os) (fun r hr => hr) (fun x hx => by
    rcases List.mem_cons.1 hx with rfl | hx
    · exact .tail _ (.head _)
    rcases List.mem_cons.1 hx with rfl | hx
    · exact .head _
    exact .tail _ (.tail _ (.tail _ (.tail _ hx))))
  have h6 := hx5.get (.head _)
  have h9' := hx5.get (x := (w.heap.size + 1 + 1 + 1, .cells #[.int .i64 n.f0, .int .i64 n.f1, .int .i64 n.f2, .int .i64 n.f3, .slice A4 n.f4.length c4, .string n.f5, .slice A6 n.f6.length c6, .slice A' p'.length cp'] 34 (0, 0))) (.tail _ (.head _))
  rw [hM.out] at h9'
  have y0 := (blk_cell h9' 0).trans rfl
  have y1 := (blk_cell h9' 1).trans rfl
  have y2 := (blk_cell h9' 2).trans rfl
  have y3 := (blk_cell h9' 3).trans rfl
  have y4 := (blk_cell h9' 4).trans rfl
  have y5 := (blk_cell h9' 5).trans rfl
  have y6 := (blk_cell h9' 6).trans rfl
  have y7 := (blk_cell h9' 7).trans rfl
  have z0 := (blk_cell h6 0).trans rfl
  have z1 := (blk_cell h6 1).trans rfl
  have z2 := (blk_cell h6 2).trans rfl
  have z3 := (blk_cell h6 3).trans rfl
  have z4 := (blk_cell h6 4).trans rfl
  have z5 := (blk_cell h6 5).trans rfl
  have z6 := (blk_cell h6 6).trans rfl
  have z7 := (blk_cell h6 7).trans rfl
  have q0 := blk_frozen h6 0
  have q1 := blk_frozen h6 1
  have q2 := blk_frozen h6 2
  have q3 := blk_frozen h6 3
  have q4 := blk_frozen h6 4
  have q5 := blk_frozen h6 5
  have q6 := blk_frozen h6 6
  have q7 := blk_frozen h6 7
  replace hx5 := Aside0.mk hx5
  replace h6 := Aside0.mk h6
  replace h9' := Aside0.mk h9'
  clear hw4 hx4 x0 x1 x2 x3 x4 x5 x6 x7 v0 v1 v2 v3 v4 v5 v6 v7 u0 u1 u2 u3 u4 u5 u6 u7
  go_wp2
  have hne6 : ∀ x ∈ ((w.heap.size + 1 + 1 + 1, Obj.cells #[.int .i64 n.f0, .int .i64 n.f1, .int .i64 n.f2, .int .i64 n.f3, .slice A4 n.f4.length c4, .string n.f5, .slice A6 n.f6.length c6, .slice A' p'.length cp'] 34 (0, 0)) :: os), x.1 ≠ w.heap.size + 1 + 1 := by
    intro x hx
    rcases List.mem_cons.1 hx with rfl | hx
    · show w.heap.size + 1 + 1 + 1 ≠ w.heap.size + 1 + 1; omega
    · have := hlt.out x hx; omega
  have hh := setRef_heap8 (n := n) (A4 := A4) (c4 := c4) (A6 := A6) (c6 := c6) (A := A') (cp := cp') (p := p') h6.out
  unfold setRef at hh
  rw [hM.out] at hh
  have hx6 := (hx5.out.put (setRef_chg (n := n) (A4 := A4) (c4 := c4) (A6 := A6) (c6 := c6) (A := A') (cp := cp') (p := p')) (setRef_heap8 h6.out) hne6).only (rs' := [⟨A', cp', p'⟩]) (os' := os) (fun r hr => hr) (fun x hx => .tail _ (.tail _ hx))
  unfold setRef at hx6
  rw [hM.out] at hx6
  refine bodyPost_ret (results_ctt rfl _ _ (w.heap.size + 1 + 1) 34 _ (0, 0) _ rfl hh Try.underlying34 rfl (by kernel_rfl)) rfl ⟨A', cp', by unfold refV; rw [hM.out]; rfl, hx6⟩
set_option maxHeartbeats 8000000 in
theorem doLeaf {n : S26} {A4 : Option Addr} {c4 : Nat} {A6 : Option Addr} {c6 : Nat} {A : Option Addr} {cp : Nat} {p p' : List Int} {w0 w : World} {B g : Nat} {os : List (Nat × Obj)} {c c' : Cu} {bo : Bool} {kd dn : Int} (hB : B = w0.heap.size) (hN : NodeR n A4 c4 A6 c6 w0) (h : HeldX B g w0 [⟨A, cp, p⟩] os c w) (k0 : kd ≠ 0) (k1 : kd ≠ 1) (k2 : kd ≠ 2) (k3 : kd ≠ 3) 
    (hcur : ∀ os' W, HeldX B g w0 [⟨A, cp, p⟩] os' c W → Calls Try.prog 26 #[.pointer (some ⟨g, 0, none⟩), .int .i64 dn] W fun e w' => e = .returned (.bool bo) ∧ HeldX B g w0 [⟨A, cp, p⟩] os' c' w')
    (href : ∀ W, RefR n A4 c4 A6 c6 A cp p W → Calls Try.prog 37 #[refV n A4 c4 A6 c6 A cp p, .int .i64 dn] W (RefM n A4 c4 A6 c6 A cp p W bo p')) :
    Calls Try.prog 11 #[.pointer (some ⟨g, 0, none⟩), refV n A4 c4 A6 c6 A cp p, .agg #[.int .i64 kd, .int .i64 dn]] w (DoPost B g w0 os n A4 c4 A6 c6 p' bo c') := by
  have hu34 := Try.underlying34
  have hu26 := Try.underlying26
  have hu39 := Try.underlying39
  have hx1 : HeldX B g w0 [⟨A, cp, p⟩] ((w.heap.size + 1 + 1 + 1, .cells #[.int .i64 n.f0, .int .i64 n.f1, .int .i64 n.f2, .int .i64 n.f3, .slice A4 n.f4.length c4, .string n.f5, .slice A6 n.f6.length c6, .slice A p.length cp] 34 (0, 0)) :: (w.heap.size + 1 + 1, .cells #[.int .i64 0, .int .i64 0, .int .i64 0, .int .i64 0, .slice none 0 0, .string ⟨#[]⟩, .slice none 0 0, .slice none 0 0] 34 (0, 0)) :: (w.heap.size + 1, .cells #[.int .i64 kd, .int .i64 dn] 39 (0, 0)) :: (w.heap.size, .cells #[.int .i64 n.f0, .int .i64 n.f1, .int .i64 n.f2, .int .i64 n.f3, .slice A4 n.f4.length c4, .string n.f5, .slice A6 n.f6.length c6, .slice A p.length cp] 34 (0, 0)) :: os) c ((((w.alloc (.cells #[.int .i64 n.f0, .int .i64 n.f1, .int .i64 n.f2, .int .i64 n.f3, .slice A4 n.f4.length c4, .string n.f5, .slice A6 n.f6.length c6, .slice A p.length cp] 34)).alloc (.cells #[.int .i64 kd, .int .i64 dn] 39)).alloc (.cells #[.int .i64 0, .int .i64 0, .int .i64 0, .int .i64 0, .slice none 0 0, .string ⟨#[]⟩, .slice none 0 0, .slice none 0 0] 34)).alloc (.cells #[.int .i64 n.f0, .int .i64 n.f1, .int .i64 n.f2, .int .i64 n.f3, .slice A4 n.f4.length c4, .string n.f5, .slice A6 n.f6.length c6, .slice A p.length cp] 34)) := by
    have := (((h.box (.cells #[.int .i64 n.f0, .int .i64 n.f1, .int .i64 n.f2, .int .i64 n.f3, .slice A4 n.f4.length c4, .string n.f5, .slice A6 n.f6.length c6, .slice A p.length cp] 34)).box (.cells #[.int .i64 kd, .int .i64 dn] 39)).box (.cells #[.int .i64 0, .int .i64 0, .int .i64 0, .int .i64 0, .slice none 0 0, .string ⟨#[]⟩, .slice none 0 0, .slice none 0 0] 34)).box (.cells #[.int .i64 n.f0, .int .i64 n.f1, .int .i64 n.f2, .int .i64 n.f3, .slice A4 n.f4.length c4, .string n.f5, .slice A6 n.f6.length c6, .slice A p.length cp] 34)
    simpa only [World.size_alloc] using this
  obtain ⟨L, hL⟩ : ∃ L, p.length = L := ⟨_, rfl⟩
  obtain ⟨M, hM⟩ : ∃ M, p'.length = M := ⟨_, rfl⟩
  obtain ⟨w1, hw1⟩ : ∃ w1, ((((w.alloc (.cells #[.int .i64 n.f0, .int .i64 n.f1, .int .i64 n.f2, .int .i64 n.f3, .slice A4 n.f4.length c4, .string n.f5, .slice A6 n.f6.length c6, .slice A p.length cp] 34)).alloc (.cells #[.int .i64 kd, .int .i64 dn] 39)).alloc (.cells #[.int .i64 0, .int .i64 0, .int .i64 0, .int .i64 0, .slice none 0 0, .string ⟨#[]⟩, .slice none 0 0, .slice none 0 0] 34)).alloc (.cells #[.int .i64 n.f0, .int .i64 n.f1, .int .i64 n.f2, .int .i64 n.f3, .slice A4 n.f4.length c4, .string n.f5, .slice A6 n.f6.length c6, .slice A p.length cp] 34)) = w1 := ⟨_, rfl⟩
  rw [hw1] at hx1
  have hD := hx1.get (x := (w.heap.size + 1, .cells #[.int .i64 kd, .int .i64 dn] 39 (0, 0))) (.tail _ (.tail _ (.head _)))
  have d0 : w1.cell? ⟨w.heap.size + 1, 0, none⟩ = some (.int .i64 kd) := (blk_cell hD 0).trans rfl
  have d1 : w1.cell? ⟨w.heap.size + 1, 1, none⟩ = some (.int .i64 dn) := (blk_cell hD 1).trans rfl
  have hlt : ∀ x ∈ os, x.1 < w.heap.size := fun x hx => (h.lt hx).1
  have e0 := decide_eq_false k0
  have e1 := decide_eq_false k1
  have e2 := decide_eq_false k2
  have e3 := decide_eq_false k3
  unfold refV
  rw [hL] at hw1 ⊢
  replace hx1 := Aside0.mk hx1
  replace h := Aside0.mk h
  replace hN := Aside0.mk hN
  replace hB := Aside0.mk hB
  replace hL := Aside0.mk hL
  replace hM := Aside0.mk hM
  replace hcur := Aside0.mk hcur
  replace href := Aside0.mk href
  replace hlt := Aside0.mk hlt
  clear hD
  go_enter Try.func11, Try.ntmps11
  go_upto_region 17 with (first
    | (go_at_call 37; refine hr.out.mono ?_; rintro e w3 ⟨A', cp', rfl, lp3, hp3, hb3⟩; have hx3 := hx2.out.refRow hb3 (by rw [hM.out]; exact lp3) (by rw [hM.out]; exact hp3); have h9 := (hx3.get (x := (w.heap.size + 1 + 1 + 1, .cells #[.int .i64 n.f0, .int .i64 n.f1, .int .i64 n.f2, .int .i64 n.f3, .slice A4 n.f4.length c4, .string n.f5, .slice A6 n.f6.length c6, .slice A p.length cp] 34 (0, 0))) (.head _)); rw [hL.out] at h9; have v0 := (blk_cell h9 0).trans rfl; have v1 := (blk_cell h9 1).trans rfl; have v2 := (blk_cell h9 2).trans rfl; have v3 := (blk_cell h9 3).trans rfl; have v4 := (blk_cell h9 4).trans rfl; have v5 := (blk_cell h9 5).trans rfl; have v6 := (blk_cell h9 6).trans rfl; have v7 := (blk_cell h9 7).trans rfl; have u0 := blk_frozen h9 0; have u1 := blk_frozen h9 1; have u2 := blk_frozen h9 2; have u3 := blk_frozen h9 3; have u4 := blk_frozen h9 4; have u5 := blk_frozen h9 5; have u6 := blk_frozen h9 6; have u7 := blk_frozen h9 7; replace hx3 := Aside0.mk hx3; replace h9 := Aside0.mk h9; clear hb3 hp3 lp3)
    | (go_at_call 26; refine (hcur.out _ _ hx1.out).mono ?_; rintro e w2 ⟨rfl, hx2⟩; have hr := href.out w2 (hN.out.refR hB.out hx2 (r := ⟨A, cp, p⟩) (.head _)); unfold RefM refV at hr; rw [hL.out, hM.out] at hr; have hX := (hx2.get (x := (w.heap.size, .cells #[.int .i64 n.f0, .int .i64 n.f1, .int .i64 n.f2, .int .i64 n.f3, .slice A4 n.f4.length c4, .string n.f5, .slice A6 n.f6.length c6, .slice A p.length cp] 34 (0, 0))) (.tail _ (.tail _ (.tail _ (.head _))))); rw [hL.out] at hX; have x0 := (blk_cell hX 0).trans rfl; have x1 := (blk_cell hX 1).trans rfl; have x2 := (blk_cell hX 2).trans rfl; have x3 := (blk_cell hX 3).trans rfl; have x4 := (blk_cell hX 4).trans rfl; have x5 := (blk_cell hX 5).trans rfl; have x6 := (blk_cell hX 6).trans rfl; have x7 := (blk_cell hX 7).trans rfl; have hDD := (hx2.get (x := (w.heap.size + 1, .cells #[.int .i64 kd, .int .i64 dn] 39 (0, 0))) (.tail _ (.tail _ (.head _)))); have dd0 := (blk_cell hDD 0).trans rfl; have dd1 := (blk_cell hDD 1).trans rfl; replace hX := Aside0.mk hX; replace hDD := Aside0.mk hDD; replace hr := Aside0.mk hr; replace hx2 := Aside0.mk hx2))
  obtain ⟨w4, hw4⟩ : ∃ w4, setRef w3 (w.heap.size + 1 + 1 + 1) n A4 c4 A6 c6 A' cp' p' = w4 := ⟨_, rfl⟩
  have hx4 : HeldX B g w0 [⟨A', cp', p'⟩] ((w.heap.size + 1 + 1 + 1, .cells #[.int .i64 n.f0, .int .i64 n.f1, .int .i64 n.f2, .int .i64 n.f3, .slice A4 n.f4.length c4, .string n.f5, .slice A6 n.f6.length c6, .slice A' p'.length cp'] 34 (0, 0)) :: (w.heap.size + 1 + 1, .cells #[.int .i64 0, .int .i64 0, .int .i64 0, .int .i64 0, .slice none 0 0, .string ⟨#[]⟩, .slice none 0 0, .slice none 0 0] 34 (0, 0)) :: (w.heap.size + 1, .cells #[.int .i64 kd, .int .i64 dn] 39 (0, 0)) :: (w.heap.size, .cells #[.int .i64 n.f0, .int .i64 n.f1, .int .i64 n.f2, .int .i64 n.f3, .slice A4 n.f4.length c4, .string n.f5, .slice A6 n.f6.length c6, .slice A p.length cp] 34 (0, 0)) :: os) c' w4 := by
    rw [← hw4]
    refine hx3.out.put setRef_chg (setRef_heap8 (hx3.out.get (.head _))) (fun x hx => ?_)
    rcases List.mem_cons.1 hx with rfl | hx
    · show w.heap.size + 1 + 1 ≠ w.heap.size + 1 + 1 + 1; omega
    rcases List.mem_cons.1 hx with rfl | hx
    · show w.heap.size + 1 ≠ w.heap.size + 1 + 1 + 1; omega
    rcases List.mem_cons.1 hx with rfl | hx
    · show w.heap.size ≠ w.heap.size + 1 + 1 + 1; omega
    have := hlt.out x hx
    omega
  unfold setRef at hw4
  rw [hM.out] at hw4
  rw [hw4]
  have hx5 := hx4.only (rs' := [⟨A', cp', p'⟩]) (os' := (w.heap.size + 1 + 1, .cells #[.int .i64 0, .int .i64 0, .int .i64 0, .int .i64 0, .slice none 0 0, .string ⟨#[]⟩, .slice none 0 0, .slice none 0 0] 34 (0, 0)) :: (w.heap.size + 1 + 1 + 1, .cells #[.int .i64 n.f0, .int .i64 n.f1, .int .i64 n.f2, .int .i64 n.f3, .slice A4 n.f4.length c4, .string n.f5, .slice A6 n.f6.length c6, .slice A' p'.length cp'] 34 (0, 0)) :: os) (fun r hr => hr) (fun x hx => by
    rcases List.mem_cons.1 hx with rfl | hx
    · exact .tail _ (.head _)
    rcases List.mem_cons.1 hx with rfl | hx
    · exact .head _
    exact .tail _ (.tail _ (.tail _ (.tail _ hx))))
  have h6 := hx5.get (.head _)
  have h9' := hx5.get (x := (w.heap.size + 1 + 1 + 1, .cells #[.int .i64 n.f0, .int .i64 n.f1, .int .i64 n.f2, .int .i64 n.f3, .slice A4 n.f4.length c4, .string n.f5, .slice A6 n.f6.length c6, .slice A' p'.length cp'] 34 (0, 0))) (.tail _ (.head _))
  rw [hM.out] at h9'
  have y0 := (blk_cell h9' 0).trans rfl
  have y1 := (blk_cell h9' 1).trans rfl
  have y2 := (blk_cell h9' 2).trans rfl
  have y3 := (blk_cell h9' 3).trans rfl
  have y4 := (blk_cell h9' 4).trans rfl
  have y5 := (blk_cell h9' 5).trans rfl
  have y6 := (blk_cell h9' 6).trans rfl
  have y7 := (blk_cell h9' 7).trans rfl
  have z0 := (blk_cell h6 0).trans rfl
  have z1 := (blk_cell h6 1).trans rfl
  have z2 := (blk_cell h6 2).trans rfl
  have z3 := (blk_cell h6 3).trans rfl
  have z4 := (blk_cell h6 4).trans rfl
  have z5 := (blk_cell h6 5).trans rfl
  have z6 := (blk_cell h6 6).trans rfl
  have z7 := (blk_cell h6 7).trans rfl
  have q0 := blk_frozen h6 0
  have q1 := blk_frozen h6 1
  have q2 := blk_frozen h6 2
  have q3 := blk_frozen h6 3
  have q4 := blk_frozen h6 4
  have q5 := blk_frozen h6 5
  have q6 := blk_frozen h6 6
  have q7 := blk_frozen h6 7
  replace hx5 := Aside0.mk hx5
  replace h6 := Aside0.mk h6
  replace h9' := Aside0.mk h9'
  clear hw4 hx4 x0 x1 x2 x3 x4 x5 x6 x7 v0 v1 v2 v3 v4 v5 v6 v7 u0 u1 u2 u3 u4 u5 u6 u7
  go_wp2
  have hne6 : ∀ x ∈ ((w.heap.size + 1 + 1 + 1, Obj.cells #[.int .i64 n.f0, .int .i64 n.f1, .int .i64 n.f2, .int .i64 n.f3, .slice A4 n.f4.length c4, .string n.f5, .slice A6 n.f6.length c6, .slice A' p'.length cp'] 34 (0, 0)) :: os), x.1 ≠ w.heap.size + 1 + 1 := by
    intro x hx
    rcases List.mem_cons.1 hx with rfl | hx
    · show w.heap.size + 1 + 1 + 1 ≠ w.heap.size + 1 + 1; omega
    · have := hlt.out x hx; omega
  have hh := setRef_heap8 (n := n) (A4 := A4) (c4 := c4) (A6 := A6) (c6 := c6) (A := A') (cp := cp') (p := p') h6.out
  unfold setRef at hh
  rw [hM.out] at hh
  have hx6 := (hx5.out.put (setRef_chg (n := n) (A4 := A4) (c4 := c4) (A6 := A6) (c6 := c6) (A := A') (cp := cp') (p := p')) (setRef_heap8 h6.out) hne6).only (rs' := [⟨A', cp', p'⟩]) (os' := os) (fun r hr => hr) (fun x hx => .tail _ (.tail _ hx))
  unfold setRef at hx6
  rw [hM.out] at hx6
  refine bodyPost_ret (results_ctt rfl _ _ (w.heap.size + 1 + 1) 34 _ (0, 0) _ rfl hh Try.underlying34 rfl (by kernel_rfl)) rfl ⟨A', cp', by unfold refV; rw [hM.out]; rfl, hx6⟩
end Go.Proofs.Ytfekpmbecoeijaa.Hand
namespace Go.Proofs.Ytfekpmbecoeijaa.Hand
open Go.RowKit Go.Proofs.YtfekpmbecoeijaaW.PrintWords Go.Proofs.YtfekpmbecoeijaaW.PrintLast Go.Proofs.YtfekpmbecoeijaaW.PrintMore Go.Proofs.Ytfekpmbecoeijaa.Q Go.Proofs.Ytfekpmbecoeijaa.RF Go.Proofs.Ytfekpmbecoeijaa.Pure
set_option linter.unusedVariables false
set_option linter.unusedSimpArgs false
set_option maxRecDepth 100000
theorem do_place {n y : S26} {A4 : Option Addr} {c4 : Nat} {A6 : Option Addr} {c6 : Nat} {A : Option Addr} {cp : Nat} {p : List Int} {w0 w : World} {B g : Nat} {os : List (Nat × Obj)} (kd dn : Int) (hO : OkT n) (hB : B = w0.heap.size) (hN : NodeR n A4 c4 A6 c6 w0) (hg : getP n p = some y) (h : HeldX B g w0 [⟨A, cp, p⟩] os (curP 100 n p) w) :
    ∃ p' y' bo, getP n p' = some y' ∧ Calls Try.prog 11 #[.pointer (some ⟨g, 0, none⟩), refV n A4 c4 A6 c6 A cp p, .agg #[.int .i64 kd, .int .i64 dn]] w (DoPost B g w0 os n A4 c4 A6 c6 p' bo (curP 100 n p')) := by
  obtain ⟨P, R, hord⟩ := ord_split hO hg
  obtain ⟨y2, hP⟩ := place hO hord
  obtain rfl : y = y2 := by have := hP.get; rw [hg] at this; exact Option.some.inj this
  have hok := hP.ok
  have hpl := hP.plen
  by_cases k0 : kd = 0
  · subst k0
    by_cases hi : 0 ≤ dn ∧ dn < (y.f6.length : Int)
    · have hd := down_yes hO.sm (show 100 < 1000000 by omega) hO.tt hg dn hi
      have hg2 : getP n (p ++ [dn]) = some (rd_T26 y.f6 dn) := by rw [getP_snoc p n y dn hg, if_pos hi]
      exact ⟨p ++ [dn], _, true, hg2, doDown (kd := 0) hB hN h (fun os' W hW => hW.down 100 dn _ _ hd) (fun W hW => refDown_true hW hP hi.1 hi.2 (by omega))⟩
    · have hd := down_no hO.sm (show 100 < 1000000 by omega) hg dn hi
      refine ⟨p, y, false, hg, doDown (kd := 0) hB hN h (fun os' W hW => hW.down 100 dn _ _ hd) (fun W hW => ?_)⟩
      by_cases hn : dn < 0
      · exact refDown_neg hW hn
      · exact refDown_far hW hP (by omega) (by omega)
  by_cases k1 : kd = 1
  · subst k1
    by_cases hp : p = []
    · subst hp
      exact ⟨[], y, false, hg, doUp (kd := 1) hB hN h (fun os' W hW => hW.upNone rfl) (fun W hW => refUp_none hW)⟩
    · obtain ⟨q, i, rfl⟩ := snoc_of hp
      obtain ⟨x, hx, _⟩ := getP_init q n y i hg
      have hql : q.length + 1 < 100 := by simpa using hpl
      have hu : (curP 100 n (q ++ [i])).up = curP 100 n q := up_cur hx hql
      have hm : (curP 100 n (q ++ [i])).ps.length = q.length + 1 := by simp [curP]
      refine ⟨q, x, true, hx, doUp (kd := 1) hB hN h (fun os' W hW => ?_) (fun W hW => refUp_some hW (by omega))⟩
      have := hW.up hok q.length hm
      rwa [hu] at this
  by_cases k2 : kd = 2
  · subst k2
    have hnx := hP.next
    have hr := fun W (hW : RefR n A4 c4 A6 c6 A cp p W) => refNext_calls hW hO hP hord
    cases R with
    | nil => exact ⟨p, y, false, hg, doNext (kd := 2) (dn := dn) hB hN h (fun os' W hW => hW.next 100 _ _ hnx) (fun W hW => (hr W hW).2 rfl)⟩
    | cons q R' =>
      obtain ⟨yq, hQ⟩ := place hO (A := P ++ [p]) (p := q) (B := R') (by rw [hord, List.append_assoc]; rfl)
      exact ⟨q, yq, true, hQ.get, doNext (kd := 2) (dn := dn) hB hN h (fun os' W hW => hW.next 100 _ _ hnx) (fun W hW => (hr W hW).1 q R' rfl)⟩
  by_cases k3 : kd = 3
  · subst k3
    have hpv := hP.prev
    have hr := fun W (hW : RefR n A4 c4 A6 c6 A cp p W) => refPrev_calls hW hO hP hord
    rcases List.eq_nil_or_concat P with hPe | ⟨P', q, hPe⟩
    · subst hPe
      exact ⟨p, y, false, hg, doPrev (kd := 3) (dn := dn) hB hN h (fun os' W hW => hW.prev 100 100 _ _ hpv) (fun W hW => (hr W hW).2 rfl)⟩
    · rw [List.concat_eq_append] at hPe
      subst hPe
      rw [List.getLast?_concat] at hpv
      obtain ⟨yq, hQ⟩ := place hO (A := P') (p := q) (B := p :: R) (by rw [hord, List.append_assoc]; rfl)
      exact ⟨q, yq, true, hQ.get, doPrev (kd := 3) (dn := dn) hB hN h (fun os' W hW => hW.prev 100 100 _ _ hpv) (fun W hW => (hr W hW).1 q (by rw [List.getLast?_concat]))⟩
  · by_cases hno : dn < 0 ∨ (tot 100 n : Int) ≤ dn
    · have hlf := leaf_no hO hg hno
      exact ⟨p, y, false, hg, doLeaf hB hN h k0 k1 k2 k3 (fun os' W hW => hW.leaf 100 100 dn _ _ hlf) (fun W hW => refLeaf_calls (y := y) hW hO (.inl ⟨rfl, rfl, hno⟩))⟩
    · obtain ⟨Aq, q, Bq, yq, hordq, hQ, hlf, hfr, hto⟩ := leaf_yes hO hg (at_ := dn) (by omega) (by omega)
      have hst := lens_step hO hQ.nth
      refine ⟨q, yq, true, hQ.get, doLeaf hB hN h k0 k1 k2 k3 (fun os' W hW => hW.leaf 100 100 dn _ _ hlf) (fun W hW => refLeaf_calls (y := y) hW hO (.inr ⟨Aq.length, rfl, ?_, hfr, ?_⟩))⟩
      · rw [hordq]; simp
      · rw [hst.1]; omega
end Go.Proofs.Ytfekpmbecoeijaa.Hand
namespace Go.Proofs.Ytfekpmbecoeijaa.Hand
open Go.RowKit Go.Proofs.YtfekpmbecoeijaaW.PrintWords Go.Proofs.YtfekpmbecoeijaaW.PrintLast Go.Proofs.YtfekpmbecoeijaaW.PrintMore Go.Proofs.Ytfekpmbecoeijaa.Q Go.Proofs.Ytfekpmbecoeijaa.RF Go.Proofs.Ytfekpmbecoeijaa.Pure
set_option linter.unusedVariables false
set_option linter.unusedSimpArgs false
set_option maxRecDepth 100000
theorem hm0 {α : Type} {a : α} {l : List α} : a ∈ a :: l := List.mem_cons_self
theorem hm1 {α : Type} {a b : α} {l : List α} : a ∈ b :: a :: l := List.mem_cons_of_mem _ hm0
theorem HeldX.of {B g : Nat} {w0 w : World} {c : Cu} (h : Cur B g w0 c w) : HeldX B g w0 [] [] c w := by
  obtain ⟨v1, v2, v3, h1, h2, h3⟩ := h
  exact ⟨v1, v2, v3, h1, h2, h3, (fun r hr => by cases hr), (fun x hx => by cases hx)⟩
theorem HeldX.of2 {g : Nat} {w2 w4 : World} {c : Cu} {o : Obj} (h : Cur (w2.alloc o).heap.size g (w2.alloc o) c w4) : HeldX w2.heap.size g w2 [] [(w2.heap.size, o)] c w4 := by
  obtain ⟨v1, v2, v3, h1, h2, h3⟩ := h
  have hz : (w2.alloc o).heap.size = w2.heap.size + 1 := World.size_alloc _ _
  have hb : Below w2.heap.size w2 w4 := below_step (below_alloc (Below.refl _ _) _) h2
  refine ⟨v1, v2, v3, h1.lower (by omega), hb, hb.size, (fun r hr => by cases hr), fun x hx => ?_⟩
  rw [List.mem_singleton.1 hx]
  refine ⟨blk_below (blk_new _ _) h2, fun hm => ?_, Nat.le_refl _⟩
  have := (Mine.ge h1 hm).1
  omega
theorem Cur.undrew {g : Nat} {w2 w4 : World} {c : Cu} (h : Cur w2.drew.heap.size g w2.drew c w4) : Cur w2.heap.size g w2 c w4 := by
  obtain ⟨v1, v2, v3, h1, h2, h3⟩ := h
  exact ⟨v1, v2, v3, h1, below_step (below_drew (Below.refl w2.heap.size w2)) h2, h3⟩
theorem HeldX.undrew {g : Nat} {w2 w4 : World} {c : Cu} {rs : List Pth} {os : List (Nat × Obj)} (h : HeldX w2.drew.heap.size g w2.drew rs os c w4) : HeldX w2.heap.size g w2 rs os c w4 := by
  obtain ⟨v1, v2, v3, h1, h2, h3⟩ := h
  exact ⟨v1, v2, v3, h1, below_step (below_drew (Below.refl w2.heap.size w2)) h2, h3⟩
theorem HeldX.nilRow {B g : Nat} {w0 w : World} {c : Cu} {rs : List Pth} {os : List (Nat × Obj)} (h : HeldX B g w0 rs os c w) : HeldX B g w0 (⟨none, 0, []⟩ :: rs) os c w := by
  obtain ⟨v1, v2, v3, h1, h2, h3, h4, h5⟩ := h
  refine ⟨v1, v2, v3, h1, h2, h3, fun r hr => ?_, h5⟩
  rcases List.mem_cons.1 hr with rfl | hr
  · exact ⟨Nat.le_refl _, Kd.F_nil _ _ _⟩
  · exact h4 r hr
set_option maxHeartbeats 8000000 in
theorem refNew_calls {n : S26} {A4 : Option Addr} {c4 : Nat} {A6 : Option Addr} {c6 : Nat} {w : World} :
    Calls Try.prog 10 #[nodeV n A4 c4 A6 c6] w fun e w' => e = .returned (refV n A4 c4 A6 c6 none 0 []) ∧ Below w.heap.size w w' := by
  have hu26 := Try.underlying26
  have hu34 := Try.underlying34
  have hb1 : Below w.heap.size w (w.alloc (.cells #[.int .i64 n.f0, .int .i64 n.f1, .int .i64 n.f2, .int .i64 n.f3, .slice A4 n.f4.length c4, .string n.f5, .slice A6 n.f6.length c6] 26)) := below_alloc (Below.refl _ _) _
  replace hb1 := Aside0.mk hb1
  go_enter Try.func10, Try.ntmps10
  go_wp2
  have hh := new_at (j := w.heap.size + 1) (w.alloc (.cells #[.int .i64 n.f0, .int .i64 n.f1, .int .i64 n.f2, .int .i64 n.f3, .slice A4 n.f4.length c4, .string n.f5, .slice A6 n.f6.length c6] 26)) (.cells #[.int .i64 n.f0, .int .i64 n.f1, .int .i64 n.f2, .int .i64 n.f3, .slice A4 n.f4.length c4, .string n.f5, .slice A6 n.f6.length c6, .slice none 0 0] 34) (World.size_alloc _ _).symm
  exact bodyPost_ret (results_single rfl (.cell (w.heap.size + 1) 34 _ (0, 0) _ rfl hh Try.underlying34 rfl (by kernel_rfl) .nil)) rfl ⟨rfl, below_alloc hb1.out _⟩
set_option maxHeartbeats 8000000 in
theorem lawMoves_knows (k : Nat) (n : S26) (A4 : Option Addr) (c4 : Nat) (A6 : Option Addr) (c6 : Nat) (A1 : Option Addr) (c1 : Nat) (l1 : List S39) (b : Bool) (w : World) (hf : arboristref42_Few.f k n.f0 n.f1 n.f2 n.f3 n.f4 n.f5 n.f6 80 = some b) (hx : b = false ∨ 30 < l1.length)
    (hr4 : Kd.C k76 w A4 n.f4.length n.f4) (hc4 : n.f4.length ≤ c4) (hr6 : Kd.C k26 w A6 n.f6.length n.f6) (hc6 : n.f6.length ≤ c6) (hr1 : Kd.C k39 w A1 l1.length l1) (hc1 : l1.length ≤ c1) :
    Calls Try.prog 3 #[nodeV n A4 c4 A6 c6, .slice A1 l1.length c1] w fun e w' => e = .returned (.bool true) ∧ Below w.heap.size w w' := by
  have hu26 := Try.underlying26
  obtain ⟨ob, hob⟩ : ∃ ob, ob = Obj.cells #[.int .i64 n.f0, .int .i64 n.f1, .int .i64 n.f2, .int .i64 n.f3, .slice A4 n.f4.length c4, .string n.f5, .slice A6 n.f6.length c6] 26 := ⟨_, rfl⟩
  have hB1 : Below w.heap.size w (w.alloc ob) := below_alloc (Below.refl _ _) _
  have hN1 : NodeB n A4 c4 A6 c6 w.heap.size (w.alloc ob) := ⟨by rw [hob]; exact blk_new _ _, hc4, Kd.C_below hr4 hB1, hc6, Kd.C_below hr6 hB1⟩
  have hfew := arboristref42_Few.calls k n.f0 n.f1 n.f2 n.f3 A4 c4 n.f4 n.f5 A6 c6 n.f6 80 b _ hN1.g4 hN1.l4 hN1.g6 hN1.l6 hf
  obtain ⟨L, hL⟩ : ∃ L, l1.length = L := ⟨_, rfl⟩
  rw [hL] at hx ⊢
  replace hB1 := Aside0.mk hB1
  replace hfew := Aside0.mk hfew
  subst hob
  clear hr4 hr6 hr1 hf hN1
  cases b with
  | false =>
    clear hx
    go_enter Try.func3, Try.ntmps3
    go_wp2_with (first
      | (go_at_call 7; refine hfew.out.mono ?_; rintro e w2 ⟨rfl, hb2⟩; replace hb2 := Aside0.mk hb2)
      | (go_at_call 8; refine (knows_calls _).mono ?_; rintro e w3 ⟨rfl, hb3⟩; replace hb3 := Aside0.mk hb3))
    go_ret
    exact ⟨rfl, below_step (below_step hB1.out hb2.out) hb3.out⟩
  | true =>
    have hgt0 : 30 < L := hx.elim (fun h => by cases h) id
    have hgt : decide ((L : Int) > 30) = true := decide_eq_true (by omega)
    have hgt2 : decide ((30 : Int) < (L : Int)) = true := hgt
    have hgt3 : decide (30 < L) = true := decide_eq_true hgt0
    clear hx
    go_enter Try.func3, Try.ntmps3
    go_wp2_with (first
      | (go_at_call 7; refine hfew.out.mono ?_; rintro e w2 ⟨rfl, hb2⟩; replace hb2 := Aside0.mk hb2)
      | (go_at_call 8; refine (knows_calls _).mono ?_; rintro e w3 ⟨rfl, hb3⟩; replace hb3 := Aside0.mk hb3))
    go_ret
    exact ⟨rfl, below_step (below_step hB1.out hb2.out) hb3.out⟩
theorem samePath_calls {p : List Int} (hp : p.length < 1000000) {A1 A2 : Option Addr} {c1 c2 L : Nat} {w : World} (hL : p.length = L) (l1 : L ≤ c1) (C1 : Kd.C (Kd.int .i64) w A1 L p) (l2 : p.length ≤ c2) (C2 : Kd.C (Kd.int .i64) w A2 p.length p) :
    Calls Try.prog 12 #[.slice A1 L c1, .slice A2 L c2] w fun e w' => e = .returned (.bool true) ∧ Below w.heap.size w w' := by
  subst hL
  obtain ⟨k, hk⟩ := (same_path p hp).rounds
  refine (arboristref45_Same.calls k A1 c1 p A2 c2 p true w C1 l1 C2 l2 hk).mono ?_
  rintro e w' ⟨rfl, hd⟩
  exact ⟨rfl, hd.below⟩
theorem refAtL_calls {n y : S26} {A4 : Option Addr} {c4 : Nat} {A6 : Option Addr} {c6 : Nat} {A : Option Addr} {cp L : Nat} {p : List Int} {P B : List (List Int)} {w : World} (hL : p.length = L) (h : RefR n A4 c4 A6 c6 A cp p w) (hO : OkT n) (hP : PlaceT n P p B y) (he : ord 100 n = P ++ p :: B) :
    Calls Try.prog 15 #[.agg #[.int .i64 n.f0, .int .i64 n.f1, .int .i64 n.f2, .int .i64 n.f3, .slice A4 n.f4.length c4, .string n.f5, .slice A6 n.f6.length c6, .slice A L cp]] w fun e w' => e = .returned (.int .i64 (lenL ((pre 100 n).take P.length) : Int)) ∧ Below w.heap.size w w' := by
  subst hL
  exact refAt_calls h hO hP he
theorem refNodeL_calls {n y : S26} {A4 : Option Addr} {c4 : Nat} {A6 : Option Addr} {c6 : Nat} {A : Option Addr} {cp L : Nat} {p : List Int} {P B : List (List Int)} {w : World} (hL : p.length = L) (h : RefR n A4 c4 A6 c6 A cp p w) (hP : PlaceT n P p B y) :
    Calls Try.prog 18 #[.agg #[.int .i64 n.f0, .int .i64 n.f1, .int .i64 n.f2, .int .i64 n.f3, .slice A4 n.f4.length c4, .string n.f5, .slice A6 n.f6.length c6, .slice A L cp]] w fun e w' => ∃ B4 d4 B6 d6, e = .returned (nodeV y B4 d4 B6 d6) ∧ y.f4.length ≤ d4 ∧ Kd.C k76 w' B4 y.f4.length y.f4 ∧ y.f6.length ≤ d6 ∧ Kd.C k26 w' B6 y.f6.length y.f6 ∧ Below w.heap.size w w' := by
  subst hL
  exact refNode_calls h hP
set_option maxHeartbeats 8000000 in
theorem lawMoves_true (k : Nat) (n : S26) (A4 : Option Addr) (c4 : Nat) (A6 : Option Addr) (c6 : Nat) (A1 : Option Addr) (c1 : Nat) (l1 : List S39) (w : World) (hf : arboristref42_Few.f k n.f0 n.f1 n.f2 n.f3 n.f4 n.f5 n.f6 80 = some true) (hO : OkT n) (hx : l1.length ≤ 30)
    (hr4 : Kd.C k76 w A4 n.f4.length n.f4) (hc4 : n.f4.length ≤ c4) (hr6 : Kd.C k26 w A6 n.f6.length n.f6) (hc6 : n.f6.length ≤ c6) (hr1 : Kd.C k39 w A1 l1.length l1) (hc1 : l1.length ≤ c1) :
    Calls Try.prog 3 #[nodeV n A4 c4 A6 c6, .slice A1 l1.length c1] w fun e w' => e = .returned (.bool true) ∧ Below w.heap.size w w' := by
  have hu26 := Try.underlying26
  have hu34 := Try.underlying34
  have hu39 := Try.underlying39
  obtain ⟨ob, hob⟩ : ∃ ob, ob = Obj.cells #[.int .i64 n.f0, .int .i64 n.f1, .int .i64 n.f2, .int .i64 n.f3, .slice A4 n.f4.length c4, .string n.f5, .slice A6 n.f6.length c6] 26 := ⟨_, rfl⟩
  have hB1 : Below w.heap.size w (w.alloc ob) := below_alloc (Below.refl _ _) _
  have hN1 : NodeB n A4 c4 A6 c6 w.heap.size (w.alloc ob) := ⟨by rw [hob]; exact blk_new _ _, hc4, Kd.C_below hr4 hB1, hc6, Kd.C_below hr6 hB1⟩
  have hfew := arboristref42_Few.calls k n.f0 n.f1 n.f2 n.f3 A4 c4 n.f4 n.f5 A6 c6 n.f6 80 true _ hN1.g4 hN1.l4 hN1.g6 hN1.l6 hf
  obtain ⟨L, hL⟩ : ∃ L, l1.length = L := ⟨_, rfl⟩
  rw [hL] at hx hr1 hc1 ⊢
  have hgt : decide ((L : Int) > 30) = false := decide_eq_false (by omega)
  have hgt2 : decide ((30 : Int) < (L : Int)) = false := hgt
  have hgt3 : decide (30 < L) = false := decide_eq_false (by omega)
  replace hN1 := Aside0.mk hN1
  replace hB1 := Aside0.mk hB1
  replace hfew := Aside0.mk hfew
  replace hO := Aside0.mk hO
  replace hr1 := Aside0.mk hr1
  subst hob
  clear hr4 hr6 hf
  go_enter Try.func3, Try.ntmps3
  go_upto_region 3 with (go_at_call 7; refine hfew.out.mono ?_; rintro e w2 ⟨rfl, hb2⟩; replace hb2 := Aside0.mk hb2)
  have hN2 := hN1.out.below hb2.out
  have hB2 := below_step hB1.out hb2.out
  have hR2 := Kd.C_below hr1.out hB2
  obtain ⟨x0, x1, x2, x3, x4, x5, x6⟩ := hN2.cells
  have hgl : w.heap.size < w2.heap.size := World.block_lt_of_cell? _ _ x0
  have hNR : NodeR n A4 c4 A6 c6 w2 := ⟨hN2.l4, hN2.g4, hN2.l6, hN2.g6⟩
  have S0 : Below w2.heap.size w2 w2 := Below.refl _ _
  have hSof : ∀ w', Below w2.heap.size w2 w' → (Below w2.heap.size w2 w' ∧ w'.cell? ⟨w.heap.size, 0, none⟩ = some (.int .i64 n.f0) ∧ w'.cell? ⟨w.heap.size, 1, none⟩ = some (.int .i64 n.f1) ∧ w'.cell? ⟨w.heap.size, 2, none⟩ = some (.int .i64 n.f2) ∧ w'.cell? ⟨w.heap.size, 3, none⟩ = some (.int .i64 n.f3) ∧ w'.cell? ⟨w.heap.size, 4, none⟩ = some (.slice A4 n.f4.length c4) ∧ w'.cell? ⟨w.heap.size, 5, none⟩ = some (.string n.f5) ∧ w'.cell? ⟨w.heap.size, 6, none⟩ = some (.slice A6 n.f6.length c6)) := fun w' hb => ⟨hb, (hb.cell hgl).trans x0, (hb.cell hgl).trans x1, (hb.cell hgl).trans x2, (hb.cell hgl).trans x3, (hb.cell hgl).trans x4, (hb.cell hgl).trans x5, (hb.cell hgl).trans x6⟩
  replace hSof := Aside0.mk hSof
  replace hN2 := Aside0.mk hN2
  replace hB2 := Aside0.mk hB2
  replace hR2 := Aside0.mk hR2
  replace hNR := Aside0.mk hNR
  go_cut [5, 6] (fun v5 v6 wc => ∃ (g t6 : Nat), v5 = .pointer (some ⟨g, 0, none⟩) ∧ v6 = .pointer (some ⟨t6, 0, none⟩) ∧ Aside0 (HeldX w2.heap.size g w2 [⟨none, 0, []⟩] [(t6, .cells #[.int .i64 n.f0, .int .i64 n.f1, .int .i64 n.f2, .int .i64 n.f3, .slice A4 n.f4.length c4, .string n.f5, .slice A6 n.f6.length c6, .slice none 0 0] 34 (0, 0))] (curP 100 n []) wc))
  case first =>
    go_region_held3 (fun w' => Below w2.heap.size w2 w' ∧ w'.cell? ⟨w.heap.size, 0, none⟩ = some (.int .i64 n.f0) ∧ w'.cell? ⟨w.heap.size, 1, none⟩ = some (.int .i64 n.f1) ∧ w'.cell? ⟨w.heap.size, 2, none⟩ = some (.int .i64 n.f2) ∧ w'.cell? ⟨w.heap.size, 3, none⟩ = some (.int .i64 n.f3) ∧ w'.cell? ⟨w.heap.size, 4, none⟩ = some (.slice A4 n.f4.length c4) ∧ w'.cell? ⟨w.heap.size, 5, none⟩ = some (.string n.f5) ∧ w'.cell? ⟨w.heap.size, 6, none⟩ = some (.slice A6 n.f6.length c6))
      ((refine hSof.out _ ?_; (first | (with_reducible exact S4) | (with_reducible exact S3) | (with_reducible exact S0) | (with_reducible refine below_set ?_ LT; with_reducible refine below_set ?_ LT; with_reducible refine below_set ?_ LT; with_reducible refine below_set ?_ LT; with_reducible refine below_set ?_ LT; with_reducible refine below_set ?_ LT; with_reducible refine below_set ?_ LT; with_reducible refine below_set ?_ LT; with_reducible exact S4) | (repeat (first | (with_reducible exact S4) | (with_reducible exact S3) | (with_reducible exact Below.refl _ _) | (with_reducible refine below_drew ?_) | (with_reducible refine below_alloc ?_ _))))))
      ((first
        | (go_at_call 10; refine (refNew_calls (n := n)).mono ?_; rintro e w4 ⟨rfl, hb4⟩; have S4 := below_step (‹Below w2.heap.size w2 _ ∧ _›).1 hb4; (first | (have hX4 := hX3.below hb4; have hzz := hX4.get (.head _); have LT := (hX4.lt (.head _)).2; have z0 := (blk_cell hzz 0).trans rfl; have q0 := blk_frozen hzz 0; have z1 := (blk_cell hzz 1).trans rfl; have q1 := blk_frozen hzz 1; have z2 := (blk_cell hzz 2).trans rfl; have q2 := blk_frozen hzz 2; have z3 := (blk_cell hzz 3).trans rfl; have q3 := blk_frozen hzz 3; have z4 := (blk_cell hzz 4).trans rfl; have q4 := blk_frozen hzz 4; have z5 := (blk_cell hzz 5).trans rfl; have q5 := blk_frozen hzz 5; have z6 := (blk_cell hzz 6).trans rfl; have q6 := blk_frozen hzz 6; have z7 := (blk_cell hzz 7).trans rfl; have q7 := blk_frozen hzz 7; replace hzz := Aside0.mk hzz; replace hX4 := Aside0.mk hX4; replace hX3 := Aside0.mk hX3) | (have hX4 := (hX3.box (.cells #[.int .i64 0, .int .i64 0, .int .i64 0, .int .i64 0, .slice none 0 0, .string ⟨#[]⟩, .slice none 0 0, .slice none 0 0] 34)).below hb4; have hzz := hX4.get (.head _); have LT := (hX4.lt (.head _)).2; have z0 := (blk_cell hzz 0).trans rfl; have q0 := blk_frozen hzz 0; have z1 := (blk_cell hzz 1).trans rfl; have q1 := blk_frozen hzz 1; have z2 := (blk_cell hzz 2).trans rfl; have q2 := blk_frozen hzz 2; have z3 := (blk_cell hzz 3).trans rfl; have q3 := blk_frozen hzz 3; have z4 := (blk_cell hzz 4).trans rfl; have q4 := blk_frozen hzz 4; have z5 := (blk_cell hzz 5).trans rfl; have q5 := blk_frozen hzz 5; have z6 := (blk_cell hzz 6).trans rfl; have q6 := blk_frozen hzz 6; have z7 := (blk_cell hzz 7).trans rfl; have q7 := blk_frozen hzz 7; replace hzz := Aside0.mk hzz; replace hX4 := Aside0.mk hX4; replace hX3 := Aside0.mk hX3) | (have hX4 := hX3.below hb4; replace hX4 := Aside0.mk hX4; replace hX3 := Aside0.mk hX3)); replace hb4 := Aside0.mk hb4)
        | (go_at_call 9; refine (new_cur hO.out (w2.drew.alloc (.cells #[.int .i64 0, .int .i64 0, .int .i64 0, .int .i64 0, .slice none 0 0, .string ⟨#[]⟩, .slice none 0 0, .slice none 0 0] 34)) hNR.out.l4 (Kd.C_below hNR.out.g4 (‹Below w2.heap.size w2 _ ∧ _›).1) hNR.out.l6 (Kd.C_below hNR.out.g6 (‹Below w2.heap.size w2 _ ∧ _›).1)).mono ?_; rintro e w3 ⟨g, rfl, hC3⟩; have hX3 : HeldX w2.heap.size g w2 [] [(w2.heap.size, .cells #[.int .i64 0, .int .i64 0, .int .i64 0, .int .i64 0, .slice none 0 0, .string ⟨#[]⟩, .slice none 0 0, .slice none 0 0] 34 (0, 0))] (curP 100 n []) w3 := HeldX.undrew (HeldX.of2 (w2 := w2.drew) hC3); have S3 := hX3.cur.bel; clear hC3)
        | (go_at_call 9; refine (new_cur hO.out w2.drew hNR.out.l4 (Kd.C_below hNR.out.g4 (‹Below w2.heap.size w2 _ ∧ _›).1) hNR.out.l6 (Kd.C_below hNR.out.g6 (‹Below w2.heap.size w2 _ ∧ _›).1)).mono ?_; rintro e w3 ⟨g, rfl, hC3⟩; have hX3 : HeldX w2.heap.size g w2 [] [] (curP 100 n []) w3 := HeldX.of (Cur.undrew hC3); have S3 := hX3.cur.bel; clear hC3)
        | fail))
    · go_step
      go_step
      go_meet
      case rel => exact ⟨_, _, rfl, rfl, ⟨(hX4.out.box (.cells #[.int .i64 n.f0, .int .i64 n.f1, .int .i64 n.f2, .int .i64 n.f3, .slice A4 n.f4.length c4, .string n.f5, .slice A6 n.f6.length c6, .slice none 0 0] 34)).nilRow⟩⟩
    · go_step
      go_step
      go_meet
      case rel => exact ⟨_, _, rfl, rfl, ⟨(hX4.out.put (setRef_chg (n := n) (A4 := A4) (c4 := c4) (A6 := A6) (c6 := c6) (A := none) (cp := 0) (p := [])) (setRef_heap8 hzz.out) (fun x hx => by cases hx)).nilRow⟩⟩
    · go_step
      go_step
      go_meet
      case rel => exact ⟨_, _, rfl, rfl, ⟨(hX4.out.put (setRef_chg (n := n) (A4 := A4) (c4 := c4) (A6 := A6) (c6 := c6) (A := none) (cp := 0) (p := [])) (setRef_heap8 hzz.out) (fun x hx => by cases hx)).nilRow⟩⟩
  obtain ⟨g, t6, rfl, rfl, hX0⟩ := hcut
  clear x0 x1 x2 x3 x4 x5 x6 S0
  go_wp2
  go_loopg [7] L (fun mm u7 wr => ∃ (i : Nat) (p : List Int) (y : S26) (A : Option Addr) (cp : Nat), u7 = .int .i64 (i : Int) ∧ mm + i = L ∧ Aside0 (getP n p = some y ∧ HeldX w2.heap.size g w2 [⟨A, cp, p⟩] [(t6, .cells #[.int .i64 n.f0, .int .i64 n.f1, .int .i64 n.f2, .int .i64 n.f3, .slice A4 n.f4.length c4, .string n.f5, .slice A6 n.f6.length c6, .slice A p.length cp] 34 (0, 0))] (curP 100 n p) wr))
  case atStart => exact ⟨0, [], n, none, 0, rfl, by omega, ⟨rfl, hX0.out⟩⟩
  case round =>
    obtain ⟨i, p, y, A, cp, rfl, hmi, hv⟩ := hrel
    obtain ⟨hg, hX⟩ := hv.out
    by_cases hlt : i < L
    · have hb : decide ((i : Int) < (L : Int)) = true := decide_eq_true (by omega)
      have hb2 : decide (i < L) = true := decide_eq_true hlt
      have hw1 : IntKind.i64.wrap ((i : Int) + 1) = ((i + 1 : Nat) : Int) := by rw [IntKind.wrap_i64]; omega
      have i0 : 0 ≤ (i : Int) := by omega
      have i1 : (i : Int) < (L : Int) := by omega
      obtain ⟨ad, hA, r0, r1⟩ := at_T39 hR2.out (i : Int) i0 i1
      subst hA
      simp only [Int.toNat_natCast] at r0 r1
      generalize (rd_T39 l1 (i : Int)).f0 = kd at r0
      generalize (rd_T39 l1 (i : Int)).f1 = dn at r1
      obtain ⟨Lp, hLp⟩ : ∃ Lp, p.length = Lp := ⟨_, rfl⟩
      have hadl := World.block_lt_of_cell? _ _ r0
      have hadl1 := World.block_lt_of_cell? _ _ r1
      rw [hLp] at hX
      have hSof : ∀ {rs os c} w', HeldX w2.heap.size g w2 rs os c w' → (t6, Obj.cells #[.int .i64 n.f0, .int .i64 n.f1, .int .i64 n.f2, .int .i64 n.f3, .slice A4 n.f4.length c4, .string n.f5, .slice A6 n.f6.length c6, .slice A Lp cp] 34 (0, 0)) ∈ os → ((w'.cell? ⟨t6, 0, none⟩ = some (.int .i64 n.f0) ∧ w'.cell? ⟨t6, 1, none⟩ = some (.int .i64 n.f1) ∧ w'.cell? ⟨t6, 2, none⟩ = some (.int .i64 n.f2) ∧ w'.cell? ⟨t6, 3, none⟩ = some (.int .i64 n.f3) ∧ w'.cell? ⟨t6, 4, none⟩ = some (.slice A4 n.f4.length c4) ∧ w'.cell? ⟨t6, 5, none⟩ = some (.string n.f5) ∧ w'.cell? ⟨t6, 6, none⟩ = some (.slice A6 n.f6.length c6) ∧ w'.cell? ⟨t6, 7, none⟩ = some (.slice A Lp cp)) ∧ w'.cell? (ad.add (i * 2)) = some (.int .i64 kd) ∧ w'.cell? ⟨(ad.add (i * 2)).block, (ad.add (i * 2)).off + 1, none⟩ = some (.int .i64 dn)) := fun w' hx hm => by
        have hb := hx.get hm
        exact ⟨⟨(blk_cell hb 0).trans rfl, (blk_cell hb 1).trans rfl, (blk_cell hb 2).trans rfl, (blk_cell hb 3).trans rfl, (blk_cell hb 4).trans rfl, (blk_cell hb 5).trans rfl, (blk_cell hb 6).trans rfl, (blk_cell hb 7).trans rfl⟩, (hx.cur.bel.cell hadl).trans r0, (hx.cur.bel.cell hadl1).trans r1⟩
      have hS0 := hSof _ hX (.head _)
      obtain ⟨⟨x0, x1, x2, x3, x4, x5, x6, x7⟩, y0, y1⟩ := hS0
      have ht6 := (hX.lt (.head _)).1
      have hXd := hX.below (below_drew (Below.refl _ _))
      replace hSof := Aside0.mk @hSof
      replace hg := Aside0.mk hg
      replace hX := Aside0.mk hX
      replace hXd := Aside0.mk hXd
      replace hLp := Aside0.mk hLp
      replace ht6 := Aside0.mk ht6
      clear hv r0 r1 hadl hadl1
      go_upto_region 9 with (fail)
      go_cut [8, 9, 10] (fun v8 v9 v10 wc => ∃ (t8 : Nat) (bo : Bool) (p' : List Int) (y' : S26) (A' : Option Addr) (cp' : Nat), v8 = .pointer (some ⟨t8, 0, none⟩) ∧ v9 = .bool bo ∧ v10 = .bool bo ∧ Aside0 (t8 ≠ t6 ∧ getP n p' = some y' ∧ HeldX w2.heap.size g w2 [⟨A', cp', p'⟩] [(t8, .cells #[.int .i64 n.f0, .int .i64 n.f1, .int .i64 n.f2, .int .i64 n.f3, .slice A4 n.f4.length c4, .string n.f5, .slice A6 n.f6.length c6, .slice A' p'.length cp'] 34 (0, 0)), (t6, .cells #[.int .i64 n.f0, .int .i64 n.f1, .int .i64 n.f2, .int .i64 n.f3, .slice A4 n.f4.length c4, .string n.f5, .slice A6 n.f6.length c6, .slice A Lp cp] 34 (0, 0))] (curP 100 n p') wc))
      case first =>
        generalize hw1d : wr.drew = W1d at hXd ⊢
        have hz1d : W1d.heap.size = wr.heap.size := by rw [← hw1d]; rfl
        refine start_ (n := 15) (S := fun w' => (w'.cell? ⟨t6, 0, none⟩ = some (.int .i64 n.f0) ∧ w'.cell? ⟨t6, 1, none⟩ = some (.int .i64 n.f1) ∧ w'.cell? ⟨t6, 2, none⟩ = some (.int .i64 n.f2) ∧ w'.cell? ⟨t6, 3, none⟩ = some (.int .i64 n.f3) ∧ w'.cell? ⟨t6, 4, none⟩ = some (.slice A4 n.f4.length c4) ∧ w'.cell? ⟨t6, 5, none⟩ = some (.string n.f5) ∧ w'.cell? ⟨t6, 6, none⟩ = some (.slice A6 n.f6.length c6) ∧ w'.cell? ⟨t6, 7, none⟩ = some (.slice A Lp cp)) ∧ w'.cell? (ad.add (i * 2)) = some (.int .i64 kd) ∧ w'.cell? ⟨(ad.add (i * 2)).block, (ad.add (i * 2)).off + 1, none⟩ = some (.int .i64 dn)) (ds := [12]) #[false, false, false, false, false, false, false, false, false, false, false, false, false, false, false] (by kernel_rfl) rfl rfl ?_ ?_
        · rw [hw1d]
          exact hSof.out _ hXd.out hm0
        intro hHeld
        rw [hw1d] at hHeld ⊢
        clear hw1d
        refine pure_ (i := 0) (N := some 33) (v := ?_) (a' := ?_) #[true, false, false, false, false, false, false, false, false, false, false, false, false, false, false] rfl rfl (by kernel_rfl) (fun _ _ _ h => h) (Or.inl ⟨by rfl, ?_⟩) ?_ ?_
        rotate_left
        · intro w'
          go_simp
          with_reducible rfl
        rotate_left
        · simp only [Act.put, List.setIfInBounds_toArray, List.set_cons_zero, List.set_cons_succ, i64_w, i32_w]
          rfl
        refine take_ (i := 1) (N := some 34) (v := ?_) (a' := ?_) #[true, true, false, false, false, false, false, false, false, false, false, false, false, false, false] rfl rfl (by kernel_rfl) (fun _ _ _ h => h) (Or.inl ⟨by rfl, ?_⟩) hHeld ?_ ?_
        rotate_left
        · rintro w' ⟨⟨s0, s1, s2, s3, s4, s5, s6, s7⟩, s8, s9⟩
          go_simp
          with_reducible rfl
        rotate_left
        · simp only [Act.put, List.setIfInBounds_toArray, List.set_cons_zero, List.set_cons_succ, i64_w, i32_w]
          rfl
        refine pure_ (i := 2) (N := some 35) (v := ?_) (a' := ?_) #[true, true, true, false, false, false, false, false, false, false, false, false, false, false, false] rfl rfl (by kernel_rfl) (fun _ _ _ h => h) (Or.inl ⟨by rfl, ?_⟩) ?_ ?_
        rotate_left
        · intro w'
          go_simp
          with_reducible rfl
        rotate_left
        · simp only [Act.put, List.setIfInBounds_toArray, List.set_cons_zero, List.set_cons_succ, i64_w, i32_w]
          rfl
        refine pure_ (i := 3) (N := some 36) (v := ?_) (a' := ?_) #[true, true, true, true, false, false, false, false, false, false, false, false, false, false, false] rfl rfl (by kernel_rfl) (fun _ _ _ h => h) (Or.inl ⟨by rfl, ?_⟩) ?_ ?_
        rotate_left
        · intro w'
          go_simp
          with_reducible rfl
        rotate_left
        · simp only [Act.put, List.setIfInBounds_toArray, List.set_cons_zero, List.set_cons_succ, i64_w, i32_w]
          rfl
        refine pure_ (i := 4) (N := some 37) (v := ?_) (a' := ?_) #[true, true, true, true, true, false, false, false, false, false, false, false, false, false, false] rfl rfl (by kernel_rfl) (fun _ _ _ h => h) (Or.inl ⟨by rfl, ?_⟩) ?_ ?_
        rotate_left
        · intro w'
          go_simp
          with_reducible rfl
        rotate_left
        · simp only [Act.put, List.setIfInBounds_toArray, List.set_cons_zero, List.set_cons_succ, i64_w, i32_w]
          rfl
        refine take_ (i := 5) (N := some 38) (v := ?_) (a' := ?_) #[true, true, true, true, true, true, false, false, false, false, false, false, false, false, false] rfl rfl (by kernel_rfl) (fun _ _ _ h => h) (Or.inl ⟨by rfl, ?_⟩) hHeld ?_ ?_
        rotate_left
        · rintro w' ⟨⟨s0, s1, s2, s3, s4, s5, s6, s7⟩, s8, s9⟩
          go_simp
          with_reducible rfl
        rotate_left
        · simp only [Act.put, List.setIfInBounds_toArray, List.set_cons_zero, List.set_cons_succ, i64_w, i32_w]
          rfl
        refine two_ (i := 6) (j := 11) (Ni := some 39) (Nj := some 8) #[true, true, true, true, true, true, true, false, false, false, false, false, false, false, false] #[true, true, true, true, true, true, false, false, false, false, false, true, false, false, false] rfl rfl rfl rfl (by kernel_rfl) (by decide) (by decide) (fun K hK => ?_) (fun K hK => ?_)
        · obtain ⟨p', y', bo, hg', hdo⟩ := do_place kd dn hO.out rfl hNR.out hg.out hXd.out
          unfold refV at hdo
          rw [hLp.out] at hdo
          refine goes_ Try.func11 (by kernel_rfl) rfl #[.pointer (some ⟨g, 0, none⟩), .agg #[.int .i64 n.f0, .int .i64 n.f1, .int .i64 n.f2, .int .i64 n.f3, .slice A4 n.f4.length c4, .string n.f5, .slice A6 n.f6.length c6, .slice A Lp cp], .agg #[.int .i64 kd, .int .i64 dn]] (by rfl) rfl rfl (by (try simp only [List.map_toArray, List.map_cons, List.map_nil]); first | done | rfl) ?_
          refine hdo.mono ?_
          rintro e w5 ⟨A', cp', rfl, hX5⟩
          refine ⟨_, rfl, ?_⟩
          refine hK.out _ _ (hSof.out _ hX5 hm0) (fun hHeld => ?_)
          have hX6 := hX5.box (.cells #[.int .i64 n.f0, .int .i64 n.f1, .int .i64 n.f2, .int .i64 n.f3, .slice A4 n.f4.length c4, .string n.f5, .slice A6 n.f6.length c6, .slice A' p'.length cp'] 34)
          replace hX5 := Aside0.mk hX5
          replace hX6 := Aside0.mk hX6
          replace hg' := Aside0.mk hg'
          clear hdo
          clear hK K
          refine norm_ (a' := ?_) ?_ ?_
          rotate_left
          · show Act.put _ (some 39) _ = _
            simp only [Act.put, List.setIfInBounds_toArray, List.set_cons_zero, List.set_cons_succ, i64_w, i32_w]
            rfl
          refine pure_ (i := 7) (N := some 32) (v := ?_) (a' := ?_) #[true, true, true, true, true, true, true, true, false, false, false, false, false, false, false] rfl rfl (by kernel_rfl) (fun _ _ _ h => h) (Or.inl ⟨by rfl, ?_⟩) ?_ ?_
          rotate_left
          · intro w'
            go_simp
            with_reducible rfl
          rotate_left
          · simp only [Act.put, List.setIfInBounds_toArray, List.set_cons_zero, List.set_cons_succ, i64_w, i32_w]
            rfl
          refine pure_ (i := 8) (N := some 40) (v := ?_) (a' := ?_) #[true, true, true, true, true, true, true, true, true, false, false, false, false, false, false] rfl rfl (by kernel_rfl) (fun _ _ _ h => h) (Or.inl ⟨by rfl, ?_⟩) ?_ ?_
          rotate_left
          · intro w'
            go_simp
            with_reducible rfl
          rotate_left
          · simp only [Act.put, List.setIfInBounds_toArray, List.set_cons_zero, List.set_cons_succ, i64_w, i32_w]
            rfl
          refine pure_ (i := 9) (N := some 41) (v := ?_) (a' := ?_) #[true, true, true, true, true, true, true, true, true, true, false, false, false, false, false] rfl rfl (by kernel_rfl) (fun _ _ _ h => h) (Or.inl ⟨by rfl, ?_⟩) ?_ ?_
          rotate_left
          · intro w'
            go_simp
            with_reducible rfl
          rotate_left
          · simp only [Act.put, List.setIfInBounds_toArray, List.set_cons_zero, List.set_cons_succ, i64_w, i32_w]
            rfl
          refine pure_ (i := 10) (N := some 42) (v := ?_) (a' := ?_) #[true, true, true, true, true, true, true, true, true, true, true, false, false, false, false] rfl rfl (by kernel_rfl) (fun _ _ _ h => h) (Or.inl ⟨by rfl, ?_⟩) ?_ ?_
          rotate_left
          · intro w'
            go_simp
            with_reducible rfl
          rotate_left
          · simp only [Act.put, List.setIfInBounds_toArray, List.set_cons_zero, List.set_cons_succ, i64_w, i32_w]
            rfl
          refine one_ (i := 11) (N := some 8) #[true, true, true, true, true, true, true, true, true, true, true, true, false, false, false] rfl rfl (by kernel_rfl) (by decide) (fun K hK => ?_)
          refine value_ (w1 := ?_) (v := ?_) (by rfl) rfl ?_ ?_
          rotate_left 2
          · go_simp
            constructor
            · rfl
            · rfl
          refine hK.out _ _ (hSof.out _ (hX5.out.box (.cells #[.int .i64 0, .int .i64 0, .int .i64 0, .int .i64 0, .slice none 0 0, .string ⟨#[]⟩, .slice none 0 0, .slice none 0 0] 34)) hm1) (fun hHeld => ?_)
          clear hK K
          refine norm_ (a' := ?_) ?_ ?_
          rotate_left
          · show Act.put _ (some 8) _ = _
            simp only [Act.put, List.setIfInBounds_toArray, List.set_cons_zero, List.set_cons_succ, i64_w, i32_w]
            rfl
          refine last_ (i := 12) (N := none) #[true, true, true, true, true, true, true, true, true, true, true, true, true, false, false] rfl rfl (by kernel_rfl) (by decide) (fun K hK => ?_)
          refine skip_ (w1 := ?_) (by rfl) rfl ?_ ?_
          rotate_left
          · go_simp
            rfl
          refine hK.out _ _ ?_
          refine pure_ (i := 13) (N := some 9) (v := ?_) (a' := ?_) #[true, true, true, true, true, true, true, true, true, true, true, true, true, true, false] rfl rfl (by kernel_rfl) (fun _ _ _ h => h) (Or.inl ⟨by rfl, ?_⟩) ?_ ?_
          rotate_left
          · intro w'
            go_simp
            with_reducible rfl
          rotate_left
          · simp only [Act.put, List.setIfInBounds_toArray, List.set_cons_zero, List.set_cons_succ, i64_w, i32_w]
            rfl
          refine pure_ (i := 14) (N := some 10) (v := ?_) (a' := ?_) #[true, true, true, true, true, true, true, true, true, true, true, true, true, true, true] rfl rfl (by kernel_rfl) (fun _ _ _ h => h) (Or.inl ⟨by rfl, ?_⟩) ?_ ?_
          rotate_left
          · intro w'
            go_simp
            with_reducible rfl
          rotate_left
          · simp only [Act.put, List.setIfInBounds_toArray, List.set_cons_zero, List.set_cons_succ, i64_w, i32_w]
            rfl
          clear hK K
          refine done_ (by kernel_rfl) ?_
          go_step
          go_step
          go_meet
          case rel => exact ⟨_, bo, p', y', A', cp', rfl, rfl, rfl, ⟨(by have := hX5.out.lt hm0; omega), hg'.out, hX6.out⟩⟩
        · have hX4 := hXd.out.box (.cells #[.int .i64 0, .int .i64 0, .int .i64 0, .int .i64 0, .slice none 0 0, .string ⟨#[]⟩, .slice none 0 0, .slice none 0 0] 34)
          replace hX4 := Aside0.mk hX4
          refine value_ (w1 := ?_) (v := ?_) (by rfl) rfl ?_ ?_
          rotate_left 2
          · go_simp
            constructor
            · rfl
            · rfl
          refine hK.out _ _ (hSof.out _ hX4.out hm1) (fun hHeld => ?_)
          clear hK K
          refine norm_ (a' := ?_) ?_ ?_
          rotate_left
          · show Act.put _ (some 8) _ = _
            simp only [Act.put, List.setIfInBounds_toArray, List.set_cons_zero, List.set_cons_succ, i64_w, i32_w]
            rfl
          refine one_ (i := 6) (N := some 39) #[true, true, true, true, true, true, true, false, false, false, false, true, false, false, false] rfl rfl (by kernel_rfl) (by decide) (fun K hK => ?_)
          obtain ⟨p', y', bo, hg', hdo⟩ := do_place kd dn hO.out rfl hNR.out hg.out hX4.out
          unfold refV at hdo
          rw [hLp.out] at hdo
          refine goes_ Try.func11 (by kernel_rfl) rfl #[.pointer (some ⟨g, 0, none⟩), .agg #[.int .i64 n.f0, .int .i64 n.f1, .int .i64 n.f2, .int .i64 n.f3, .slice A4 n.f4.length c4, .string n.f5, .slice A6 n.f6.length c6, .slice A Lp cp], .agg #[.int .i64 kd, .int .i64 dn]] (by rfl) rfl rfl (by (try simp only [List.map_toArray, List.map_cons, List.map_nil]); first | done | rfl) ?_
          refine hdo.mono ?_
          rintro e w5 ⟨A', cp', rfl, hX5⟩
          refine ⟨_, rfl, ?_⟩
          refine hK.out _ _ (hSof.out _ hX5 hm1) (fun hHeld => ?_)
          rw [hz1d] at hX5
          have hzz := hX5.get hm0
          have LT := (hX5.lt hm0).2
          have z0 := (blk_cell hzz 0).trans rfl
          have q0 := blk_frozen hzz 0
          have z1 := (blk_cell hzz 1).trans rfl
          have q1 := blk_frozen hzz 1
          have z2 := (blk_cell hzz 2).trans rfl
          have q2 := blk_frozen hzz 2
          have z3 := (blk_cell hzz 3).trans rfl
          have q3 := blk_frozen hzz 3
          have z4 := (blk_cell hzz 4).trans rfl
          have q4 := blk_frozen hzz 4
          have z5 := (blk_cell hzz 5).trans rfl
          have q5 := blk_frozen hzz 5
          have z6 := (blk_cell hzz 6).trans rfl
          have q6 := blk_frozen hzz 6
          have z7 := (blk_cell hzz 7).trans rfl
          have q7 := blk_frozen hzz 7
          replace hzz := Aside0.mk hzz
          replace hX5 := Aside0.mk hX5
          replace hg' := Aside0.mk hg'
          clear hdo
          clear hK K
          refine norm_ (a' := ?_) ?_ ?_
          rotate_left
          · show Act.put _ (some 39) _ = _
            simp only [Act.put, List.setIfInBounds_toArray, List.set_cons_zero, List.set_cons_succ, i64_w, i32_w]
            rfl
          refine pure_ (i := 7) (N := some 32) (v := ?_) (a' := ?_) #[true, true, true, true, true, true, true, true, false, false, false, true, false, false, false] rfl rfl (by kernel_rfl) (fun _ _ _ h => h) (Or.inl ⟨by rfl, ?_⟩) ?_ ?_
          rotate_left
          · intro w'
            go_simp
            with_reducible rfl
          rotate_left
          · simp only [Act.put, List.setIfInBounds_toArray, List.set_cons_zero, List.set_cons_succ, i64_w, i32_w]
            rfl
          refine pure_ (i := 8) (N := some 40) (v := ?_) (a' := ?_) #[true, true, true, true, true, true, true, true, true, false, false, true, false, false, false] rfl rfl (by kernel_rfl) (fun _ _ _ h => h) (Or.inl ⟨by rfl, ?_⟩) ?_ ?_
          rotate_left
          · intro w'
            go_simp
            with_reducible rfl
          rotate_left
          · simp only [Act.put, List.setIfInBounds_toArray, List.set_cons_zero, List.set_cons_succ, i64_w, i32_w]
            rfl
          refine pure_ (i := 9) (N := some 41) (v := ?_) (a' := ?_) #[true, true, true, true, true, true, true, true, true, true, false, true, false, false, false] rfl rfl (by kernel_rfl) (fun _ _ _ h => h) (Or.inl ⟨by rfl, ?_⟩) ?_ ?_
          rotate_left
          · intro w'
            go_simp
            with_reducible rfl
          rotate_left
          · simp only [Act.put, List.setIfInBounds_toArray, List.set_cons_zero, List.set_cons_succ, i64_w, i32_w]
            rfl
          refine pure_ (i := 10) (N := some 42) (v := ?_) (a' := ?_) #[true, true, true, true, true, true, true, true, true, true, true, true, false, false, false] rfl rfl (by kernel_rfl) (fun _ _ _ h => h) (Or.inl ⟨by rfl, ?_⟩) ?_ ?_
          rotate_left
          · intro w'
            go_simp
            with_reducible rfl
          rotate_left
          · simp only [Act.put, List.setIfInBounds_toArray, List.set_cons_zero, List.set_cons_succ, i64_w, i32_w]
            rfl
          refine last_ (i := 12) (N := none) #[true, true, true, true, true, true, true, true, true, true, true, true, true, false, false] rfl rfl (by kernel_rfl) (by decide) (fun K hK => ?_)
          refine skip_ (w1 := ?_) (by rfl) rfl ?_ ?_
          rotate_left
          · go_simp
            rfl
          refine hK.out _ _ ?_
          refine pure_ (i := 13) (N := some 9) (v := ?_) (a' := ?_) #[true, true, true, true, true, true, true, true, true, true, true, true, true, true, false] rfl rfl (by kernel_rfl) (fun _ _ _ h => h) (Or.inl ⟨by rfl, ?_⟩) ?_ ?_
          rotate_left
          · intro w'
            go_simp
            with_reducible rfl
          rotate_left
          · simp only [Act.put, List.setIfInBounds_toArray, List.set_cons_zero, List.set_cons_succ, i64_w, i32_w]
            rfl
          refine pure_ (i := 14) (N := some 10) (v := ?_) (a' := ?_) #[true, true, true, true, true, true, true, true, true, true, true, true, true, true, true] rfl rfl (by kernel_rfl) (fun _ _ _ h => h) (Or.inl ⟨by rfl, ?_⟩) ?_ ?_
          rotate_left
          · intro w'
            go_simp
            with_reducible rfl
          rotate_left
          · simp only [Act.put, List.setIfInBounds_toArray, List.set_cons_zero, List.set_cons_succ, i64_w, i32_w]
            rfl
          clear hK K
          refine done_ (by kernel_rfl) ?_
          go_step
          go_step
          go_meet
          case rel => exact ⟨_, bo, p', y', A', cp', rfl, rfl, rfl, ⟨(by have := ht6.out; omega), hg'.out, (hX5.out.put (setRef_chg (n := n) (A4 := A4) (c4 := c4) (A6 := A6) (c6 := c6) (A := A') (cp := cp') (p := p')) (setRef_heap8 hzz.out) (fun x hx => by rw [List.mem_singleton.1 hx]; show t6 ≠ _; have := ht6.out; omega))⟩⟩
      obtain ⟨t8, bo, p', y', A', cp', rfl, rfl, rfl, hv2⟩ := hcut
      obtain ⟨ht86, hg2, hX2⟩ := hv2.out
      clear hv2 x0 x1 x2 x3 x4 x5 x6 x7 y0 y1 hX hXd
      obtain ⟨Lq, hLq⟩ : ∃ Lq, p'.length = Lq := ⟨_, rfl⟩
      obtain ⟨P, R, hord⟩ := ord_split hO.out hg2
      obtain ⟨y2, hP⟩ := place hO.out hord
      obtain rfl : y' = y2 := by have := hP.get; rw [hg2] at this; exact Option.some.inj this
      have hlp : p'.length < 1000000 := by have := hP.plen; omega
      rw [hLq] at hX2
      have hz8 := hX2.get hm0
      have hS0 : Below wc.heap.size wc wc.drew := below_drew (Below.refl _ _)
      have x0 := (blk_cell hz8 0).trans rfl
      have x1 := (blk_cell hz8 1).trans rfl
      have x2 := (blk_cell hz8 2).trans rfl
      have x3 := (blk_cell hz8 3).trans rfl
      have x4 := (blk_cell hz8 4).trans rfl
      have x5 := (blk_cell hz8 5).trans rfl
      have x6 := (blk_cell hz8 6).trans rfl
      have x7 := (blk_cell hz8 7).trans rfl
      have hgl8 : t8 < wc.heap.size := World.block_lt_of_cell? _ _ x0
      have hSo8 : ∀ w', Below wc.heap.size wc w' → (Below wc.heap.size wc w' ∧ w'.cell? ⟨t8, 0, none⟩ = some (.int .i64 n.f0) ∧ w'.cell? ⟨t8, 1, none⟩ = some (.int .i64 n.f1) ∧ w'.cell? ⟨t8, 2, none⟩ = some (.int .i64 n.f2) ∧ w'.cell? ⟨t8, 3, none⟩ = some (.int .i64 n.f3) ∧ w'.cell? ⟨t8, 4, none⟩ = some (.slice A4 n.f4.length c4) ∧ w'.cell? ⟨t8, 5, none⟩ = some (.string n.f5) ∧ w'.cell? ⟨t8, 6, none⟩ = some (.slice A6 n.f6.length c6) ∧ w'.cell? ⟨t8, 7, none⟩ = some (.slice A' Lq cp')) := fun w' hb => ⟨hb, (hb.cell hgl8).trans x0, (hb.cell hgl8).trans x1, (hb.cell hgl8).trans x2, (hb.cell hgl8).trans x3, (hb.cell hgl8).trans x4, (hb.cell hgl8).trans x5, (hb.cell hgl8).trans x6, (hb.cell hgl8).trans x7⟩
      have hRc := fun W (hb : Below wc.heap.size wc W) => hNR.out.refR rfl (hX2.below hb) hm0
      replace hSo8 := Aside0.mk hSo8
      replace hRc := Aside0.mk hRc
      replace hX2 := Aside0.mk hX2
      replace hP := Aside0.mk hP
      replace hord := Aside0.mk hord
      replace hLq := Aside0.mk hLq
      replace hg2 := Aside0.mk hg2
      replace hz8 := Aside0.mk hz8
      clear hgl8
      go_upto_region 10 with (fail)
      go_region_held3 (fun w' => Below wc.heap.size wc w' ∧ w'.cell? ⟨t8, 0, none⟩ = some (.int .i64 n.f0) ∧ w'.cell? ⟨t8, 1, none⟩ = some (.int .i64 n.f1) ∧ w'.cell? ⟨t8, 2, none⟩ = some (.int .i64 n.f2) ∧ w'.cell? ⟨t8, 3, none⟩ = some (.int .i64 n.f3) ∧ w'.cell? ⟨t8, 4, none⟩ = some (.slice A4 n.f4.length c4) ∧ w'.cell? ⟨t8, 5, none⟩ = some (.string n.f5) ∧ w'.cell? ⟨t8, 6, none⟩ = some (.slice A6 n.f6.length c6) ∧ w'.cell? ⟨t8, 7, none⟩ = some (.slice A' Lq cp'))
        ((refine hSo8.out _ ?_; (first | (with_reducible exact S7) | (with_reducible exact S6) | (with_reducible exact S5) | (with_reducible exact S4) | (with_reducible exact S3) | (with_reducible exact S2) | (with_reducible exact S1) | (with_reducible exact hS0))))
        ((first
          | (go_at_call 13; refine ((hX2.out.below (‹Below wc.heap.size wc _ ∧ _›).1).path hP.out.ok (p := p') rfl).mono ?_; rw [hLq.out]; rintro e w4 ⟨A9, c9, rfl, l9, C9, hb, -⟩; have S1 := below_step (‹Below wc.heap.size wc _ ∧ _›).1 hb; replace hb := Aside0.mk hb; replace l9 := Aside0.mk l9; replace C9 := Aside0.mk C9)
          | (go_at_call 12; refine (samePath_calls (p := p') hlp (A1 := A9) (c1 := c9) (A2 := A') (c2 := cp') hLq.out l9.out (Kd.C_below C9.out (Below.refl _ _)) (hRc.out _ (‹Below wc.heap.size wc _ ∧ _›).1).lp (hRc.out _ (‹Below wc.heap.size wc _ ∧ _›).1).gp).mono ?_; rintro e w5 ⟨rfl, hb⟩; have S2 := below_step (‹Below wc.heap.size wc _ ∧ _›).1 hb; replace hb := Aside0.mk hb)
          | (go_at_call 14; refine ((hX2.out.below (‹Below wc.heap.size wc _ ∧ _›).1).cur.atB hP.out.ok).mono ?_; rw [hP.out.at_]; rintro e w6 ⟨rfl, hb⟩; have S3 := below_step (‹Below wc.heap.size wc _ ∧ _›).1 hb; replace hb := Aside0.mk hb)
          | (go_at_call 15; refine (refAtL_calls hLq.out (hRc.out _ (‹Below wc.heap.size wc _ ∧ _›).1) hO.out hP.out hord.out).mono ?_; rintro e w7 ⟨rfl, hb⟩; have S4 := below_step (‹Below wc.heap.size wc _ ∧ _›).1 hb; replace hb := Aside0.mk hb)
          | (go_at_call 17; refine ((hX2.out.below (‹Below wc.heap.size wc _ ∧ _›).1).cur.nodeB hP.out.ok (Classical.choose hP.out.sm) hP.out.now (small_clone _ _ (Classical.choose_spec hP.out.sm))).mono ?_; rintro e w8 ⟨E4, e4, E6, e6, rfl, l4, r4, l6, r6, hb⟩; have S5 := below_step (‹Below wc.heap.size wc _ ∧ _›).1 hb; replace hb := Aside0.mk hb; replace l4 := Aside0.mk l4; replace r4 := Aside0.mk r4; replace l6 := Aside0.mk l6; replace r6 := Aside0.mk r6)
          | (go_at_call 18; refine (refNodeL_calls hLq.out (hRc.out _ (‹Below wc.heap.size wc _ ∧ _›).1) hP.out).mono ?_; rintro e w9 ⟨F4, f4, F6, f6, rfl, m4, q4, m6, q6, hb⟩; have S6 := below_step (‹Below wc.heap.size wc _ ∧ _›).1 hb; have r4' := Kd.C_below r4.out hb; have r6' := Kd.C_below r6.out hb; replace hb := Aside0.mk hb; replace m4 := Aside0.mk m4; replace q4 := Aside0.mk q4; replace m6 := Aside0.mk m6; replace q6 := Aside0.mk q6; replace r4' := Aside0.mk r4'; replace r6' := Aside0.mk r6')
          | (go_at_call 16; refine (same_calls hP.out.sm l4.out r4'.out l6.out r6'.out m4.out q4.out m6.out q6.out).mono ?_; rintro e w10 ⟨rfl, hb⟩; have S7 := below_step (‹Below wc.heap.size wc _ ∧ _›).1 hb; replace hb := Aside0.mk hb)
          | fail))
      rename_i hHeld
      have hX10 := (hX2.out.below S7).only (rs' := [⟨A', cp', p'⟩]) (os' := [(t6, .cells #[.int .i64 n.f0, .int .i64 n.f1, .int .i64 n.f2, .int .i64 n.f3, .slice A4 n.f4.length c4, .string n.f5, .slice A6 n.f6.length c6, .slice A Lp cp] 34 (0, 0)), (t8, .cells #[.int .i64 n.f0, .int .i64 n.f1, .int .i64 n.f2, .int .i64 n.f3, .slice A4 n.f4.length c4, .string n.f5, .slice A6 n.f6.length c6, .slice A' Lq cp'] 34 (0, 0))]) (fun r hr => hr) (fun x hx => by
        rcases List.mem_cons.1 hx with rfl | hx
        · exact hm1
        · rw [List.mem_singleton.1 hx]; exact hm0)
      clear S1 S2 S3 S4 S5 S6 hHeld x0 x1 x2 x3 x4 x5 x6 x7 hS0
      have hy8 := hX10.get hm1
      have y0 := (blk_cell hy8 0).trans rfl
      have y1 := (blk_cell hy8 1).trans rfl
      have y2 := (blk_cell hy8 2).trans rfl
      have y3 := (blk_cell hy8 3).trans rfl
      have y4 := (blk_cell hy8 4).trans rfl
      have y5 := (blk_cell hy8 5).trans rfl
      have y6 := (blk_cell hy8 6).trans rfl
      have y7 := (blk_cell hy8 7).trans rfl
      have hzz := hX10.get hm0
      have z0 := (blk_cell hzz 0).trans rfl
      have q0 := blk_frozen hzz 0
      have z1 := (blk_cell hzz 1).trans rfl
      have q1 := blk_frozen hzz 1
      have z2 := (blk_cell hzz 2).trans rfl
      have q2 := blk_frozen hzz 2
      have z3 := (blk_cell hzz 3).trans rfl
      have q3 := blk_frozen hzz 3
      have z4 := (blk_cell hzz 4).trans rfl
      have q4 := blk_frozen hzz 4
      have z5 := (blk_cell hzz 5).trans rfl
      have q5 := blk_frozen hzz 5
      have z6 := (blk_cell hzz 6).trans rfl
      have q6 := blk_frozen hzz 6
      have z7 := (blk_cell hzz 7).trans rfl
      have q7 := blk_frozen hzz 7
      replace hzz := Aside0.mk hzz
      replace hy8 := Aside0.mk hy8
      replace hX10 := Aside0.mk hX10
      replace S7 := Aside0.mk S7
      go_wp2
      go_roundg (L - (i + 1))
      case measure => omega
      case rel =>
        have hfin := (hX10.out.put (setRef_chg (n := n) (A4 := A4) (c4 := c4) (A6 := A6) (c6 := c6) (A := A') (cp := cp') (p := p')) (setRef_heap8 hzz.out) (fun x hx => by rw [List.mem_singleton.1 hx]; exact ht86)).only (rs' := [⟨A', cp', p'⟩]) (os' := [(t6, .cells #[.int .i64 n.f0, .int .i64 n.f1, .int .i64 n.f2, .int .i64 n.f3, .slice A4 n.f4.length c4, .string n.f5, .slice A6 n.f6.length c6, .slice A' p'.length cp'] 34 (0, 0))]) (fun r hr => hr) (fun x hx => by rw [List.mem_singleton.1 hx]; exact hm0)
        have hL' := hLq.out
        subst hL'
        exact ⟨i + 1, p', y', A', cp', rfl, by omega, ⟨hg2.out, hfin⟩⟩
    · have hb : decide ((i : Int) < (L : Int)) = false := decide_eq_false (by omega)
      have hb2 : decide (i < L) = false := decide_eq_false hlt
      replace hX := Aside0.mk hX
      clear hv
      go_wp2_with (go_at_call 8; refine (knows_calls _).mono ?_; rintro e w14 ⟨rfl, hb14⟩; have hC14 := hX.out.below hb14; replace hC14 := Aside0.mk hC14; clear hb14)
      go_ret
      exact ⟨rfl, hB2.out.trans (hC14.out.cur.bel.mono hB2.out.size)⟩
end Go.Proofs.Ytfekpmbecoeijaa.Hand
