import Derived.Test.YtgdbcogbbghjaaaPuF
import Derived.Test.YtgdbcogbbghjaaaQf6
import Derived.Test.YtgdbcogbbghjaaaPuI
set_option linter.unusedVariables false
namespace Go.Proofs.Ytgdbcogbbghjaaa.Pure
open Go.RowKit Go.Proofs.Ytgdbcogbbghjaaa.Q Go.Proofs.YtgdbcogbbghjaaaW.PrintWords Go.Proofs.YtgdbcogbbghjaaaW.PrintLast
open Hand (It Gr kidsF kidsL cloneB nodesOf kidsOf pathsOf fieldsOf getOf kidsF_mono)
section
variable (g : Gr)
def LevB : Prop := ∀ j : Nat, (rd_T78 g.g4 (j : Int)).f1.length ≤ 1000
theorem rd_out {i : Nat} (h : g.g4.length ≤ i) : (rd_T78 g.g4 (i : Int)).f1.length = 0 := by
  unfold rd_T78
  rw [Int.toNat_natCast, List.getD_eq_getElem?_getD, List.getElem?_eq_none h]
  rfl
theorem few_l1P (h40 : g.g4.length ≤ 40) : ∀ (d : Nat) (x3 : Int) (i : Nat), g.g4.length ≤ i + d → 0 ≤ x3 → x3 + 1000 * (g.g4.length - i : Nat) ≤ 1000000 → TotP (fun b => b = true → x3 < 400 ∧ ∀ j : Nat, i ≤ j → (rd_T78 g.g4 (j : Int)).f1.length ≤ 1000) (fun k => arboristlaw17_Few.l1 k x3 (i : Int) g.g0 g.g1 g.g2 g.g3 g.g4) := by
  intro d
  induction d with
  | zero =>
    intro x3 i h1 h3 h4
    refine TotP.step (fun k => (by rw [arboristlaw17_Few.l1])) ?_
    exact TotP.ite (fun h => by omega) (fun _ => TotP.now (fun hb => ⟨of_decide_eq_true hb, fun j hj => by rw [rd_out g (show g.g4.length ≤ j by omega)]; omega⟩))
  | succ d ih =>
    intro x3 i h1 h3 h4
    have hm := mn_or (((rd_T78 g.g4 (i : Int)).f1).length : Int) 1000
    refine TotP.step (fun k => (by rw [arboristlaw17_Few.l1])) ?_
    refine TotP.ite (fun hi => ?_) (fun _ => TotP.now (fun hb => ⟨of_decide_eq_true hb, fun j hj => by rw [rd_out g (show g.g4.length ≤ j by omega)]; omega⟩))
    refine TotP.ite (fun _ => ?_) (fun h => by omega)
    rw [w64 (n := x3 + _) (by omega) (by omega), w64 (n := (i : Int) + 1) (by omega) (by omega)]
    refine (ih (x3 + mn (((rd_T78 g.g4 (i : Int)).f1).length : Int) 1000) (i + 1) (by omega) (by omega) (by omega)).mono (fun v hv hb => ?_)
    obtain ⟨a, b⟩ := hv hb
    refine ⟨by omega, fun j hj => ?_⟩
    rcases Nat.eq_or_lt_of_le hj with rfl | hlt
    · omega
    · exact b j hlt
theorem few_l0P (h40 : g.g4.length ≤ 40) : ∀ (d : Nat) (x3 : Int) (i : Nat), 70 ≤ i + d → i ≤ 70 → 0 ≤ x3 → x3 ≤ 2000 * (i : Int) → TotP (fun b => b = true → LevB g) (fun k => arboristlaw17_Few.l0 k x3 (i : Int) g.g0 g.g1 g.g2 g.g3 g.g4) := by
  have hj : ∀ x3 : Int, 0 ≤ x3 → x3 ≤ 140000 → TotP (fun b => b = true → LevB g) (fun k => arboristlaw17_Few.j2 k x3 g.g0 g.g1 g.g2 g.g3 g.g4) := fun x3 h0 h1 => by
    refine TotP.step (fun k => (by rw [arboristlaw17_Few.j2])) ?_
    exact (few_l1P g h40 g.g4.length x3 0 (by omega) h0 (by omega)).mono (fun v hv hb j => (hv hb).2 j (by omega))
  intro d
  induction d with
  | zero =>
    intro x3 i h1 h2 h3 h4
    refine TotP.step (fun k => (by rw [arboristlaw17_Few.l0])) ?_
    exact TotP.ite (fun h => TotP.ite (fun h => by omega) (fun h => hj _ h3 (by omega))) (fun h => hj _ h3 (by omega))
  | succ d ih =>
    intro x3 i h1 h2 h3 h4
    have hm := mn_or (((rd_T67 g.g3 (i : Int)).f1).length : Int) 1000
    have hq := mn_or (((rd_T67 g.g3 (i : Int)).f2).length : Int) 1000
    refine TotP.step (fun k => (by rw [arboristlaw17_Few.l0])) ?_
    refine TotP.ite (fun h => TotP.ite (fun h' => TotP.ite (fun _ => ?_) (fun h => by omega)) (fun h => hj _ h3 (by omega))) (fun h => hj _ h3 (by omega))
    rw [w64 (n := x3 + _) (by omega) (by omega), w64 (n := _ + mn (((rd_T67 g.g3 (i : Int)).f2).length : Int) 1000) (by omega) (by omega), w64 (n := (i : Int) + 1) (by omega) (by omega)]
    exact ih (x3 + mn (((rd_T67 g.g3 (i : Int)).f1).length : Int) 1000 + mn (((rd_T67 g.g3 (i : Int)).f2).length : Int) 1000) (i + 1) (by omega) (by omega) (by omega) (by omega)
theorem few_tot : TotP (fun b => b = true → g.g2.length < 1000 ∧ g.g4.length ≤ 40 ∧ LevB g) (fun k => arboristlaw46_fewGram.f k g.g0 g.g1 g.g2 g.g3 g.g4) := by
  have hj : ∀ x : Bool, (x = false → g.g4.length ≤ 40) → TotP (fun b => b = true → g.g4.length ≤ 40 ∧ LevB g) (fun k => arboristlaw17_Few.j0 k x g.g0 g.g1 g.g2 g.g3 g.g4) := fun x hx => by
    refine TotP.step (fun k => (by rw [arboristlaw17_Few.j0])) ?_
    refine TotP.ite (fun h => TotP.now (by simp)) (fun h => ?_)
    have h40 := hx (by simpa using h)
    exact (few_l0P g h40 70 0 0 (by omega) (by omega) (by omega) (by omega)).mono (fun v hv hb => ⟨h40, hv hb⟩)
  have hd : decide ((g.g4.length : Int) > 40) = false → g.g4.length ≤ 40 := fun h => by have := of_decide_eq_false h; omega
  have hf : TotP (fun b => b = true → g.g4.length ≤ 40 ∧ LevB g) (fun k => arboristlaw17_Few.f k g.g0 g.g1 g.g2 g.g3 g.g4) := by
    unfold arboristlaw17_Few.f
    repeat' first
      | exact hj true (fun h => (by cases h))
      | exact hj _ hd
      | refine TotP.ite (fun h => ?_) (fun h => ?_)
  unfold arboristlaw46_fewGram.f
  refine TotP.bind hf (fun v hv => ?_)
  exact TotP.ite (fun h => TotP.now (fun hb => by obtain ⟨a, b⟩ := hv h; have := of_decide_eq_true hb; exact ⟨by omega, a, b⟩)) (fun h => TotP.now (by simp))
end
end Go.Proofs.Ytgdbcogbbghjaaa.Pure

set_option linter.unusedVariables false
namespace Go.Proofs.Ytgdbcogbbghjaaa.Pure
open Go.RowKit Go.Proofs.Ytgdbcogbbghjaaa.Q Go.Proofs.YtgdbcogbbghjaaaW.PrintWords Go.Proofs.YtgdbcogbbghjaaaW.PrintLast
open Hand (It Gr kidsF kidsL cloneB nodesOf kidsOf pathsOf fieldsOf getOf kidsF_mono kidsOf_mono)
theorem knows_ev : Ev (fun k => arboristlaw46_knows.f k) true := ⟨10, fun _ hk => if_pos hk⟩
theorem kids_eq (k : Nat) (g : Gr) (n : S32) : fields_Kids.f k g.g0 g.g1 g.g2 g.g3 g.g4 n.f0 n.f1 n.f2 n.f3 n.f4 n.f5 n.f6 = kidsOf k g n := by unfold fields_Kids.f; cases n; cases g; rfl
theorem cmp_ev (E : Nat) (n : S32) (l : List S32) (hl : l.length < 300) (hall : ∀ y ∈ l, small E y = true ∧ Bnd y ∧ cntL E y ≤ 300) (hs : small E n = true) (hb : Bnd n) (hc : cntL E n ≤ 300) (he : cat (l.map (txt E)) = txt E n) :
    ∀ (q i : Nat), i + q = l.length → Ev (fun k => arboristlaw46_FieldsAll_.l0 k (cat ((l.take i).map (txt E))) l (i : Int) n.f0 n.f1 n.f2 n.f3 n.f4 n.f5 n.f6) true := by
  have hsz := txt_le E n hs hb
  have hm := Nat.mul_le_mul_right 140737488351232 hc
  intro q
  induction q with
  | zero =>
    intro i hi
    obtain rfl : i = l.length := by omega
    rw [List.take_length, he]
    refine Ev.step (fun k => ?_) (Ev.bind (f := fun k (t : ByteArray) => if (txt E n).toList = t.toList then ((arboristlaw46_knows.f k).bind fun t431 => some t431) else some false) (text_ev E n hs hb hc) (Ev.congr (fun k => if_pos rfl) (Ev.bind (f := fun _ t => some t) knows_ev (Ev.now _))))
    simp only [arboristlaw46_FieldsAll_.l0]
    rw [if_neg (by omega)]
  | succ q ih =>
    intro i hi
    have hi' : i < l.length := by omega
    have hr : rd_T32 l (i : Int) = l[i] := rd32 (List.getElem?_eq_getElem hi')
    obtain ⟨s1, s2, s3⟩ := hall _ (List.getElem_mem hi')
    have hz : (cat ((l.take (i + 1)).map (txt E))).size ≤ (txt E n).size := by
      rw [← he]
      conv => rhs; rw [← List.take_append_drop (i + 1) l, List.map_append, cat_append, ByteArray.size_append]
      omega
    have hn := ih (i + 1) (by omega)
    rw [List.take_succ_eq_append_getElem hi', List.map_append, List.map_cons, List.map_nil, cat_snoc] at hn hz
    rw [ByteArray.size_append] at hz
    refine Ev.step (fun k => ?_) (Ev.bind (f := fun k (t : ByteArray) => if (cat ((l.take i).map (txt E))).size + t.size ≤ 9223372036854775807 then arboristlaw46_FieldsAll_.l0 k (cat ((l.take i).map (txt E)) ++ t) l ((i + 1 : Nat) : Int) n.f0 n.f1 n.f2 n.f3 n.f4 n.f5 n.f6 else none) (text_ev E (l[i]) s1 s2 s3) (Ev.congr (fun k => if_pos (by omega)) hn))
    simp only [arboristlaw46_FieldsAll_.l0]
    rw [if_pos (by omega), if_pos (by omega), hr, nx (n := l.length) hi' (by omega)]
section
variable (g : Gr) (n : S32)
abbrev J0 (k : Nat) (b : Bool) : Option Bool := arboristlaw46_FieldsAll_.j0 k b g.g0 g.g1 g.g2 g.g3 g.g4 n.f0 n.f1 n.f2 n.f3 n.f4 n.f5 n.f6
theorem j0_ev (E e : Nat) (heE : e ≤ E) (its : List It) (hits : kidsF e g n [] ⟨#[]⟩ = some its) (hl : its.length < 300) (hall : ∀ it ∈ its, small e it.node = true) (hse : small e n = true) (hc : cntL E n ≤ 300) (hb : Bnd n) (hn : n.f0 < 0) : Ev (fun k => J0 g n k false) true := by
  have hE := up_le hse heE
  have hK : Ev (fun k => kidsOf k g n) (its.map (·.node)) := by
    refine Ev.of (k := e) (fun k => kidsOf_mono k g n) ?_
    unfold kidsOf
    rw [hits, Option.bind_some]
    unfold nodesOf
    rw [if_pos ⟨by omega, List.all_eq_true.2 fun it hit => small_clone _ _ (hall it hit)⟩]
  have hP : ∀ it ∈ its, ∃ d, d ≤ E ∧ small d it.node = true ∧ cntL d it.node ≤ 300 ∧ Bnd it.node := by
    intro it hit
    obtain ⟨q, _, _, hq, _⟩ := kidsF_leads e g n [] ⟨#[]⟩ its hits it hit
    refine leads_of (P := fun y => ∃ d, d ≤ E ∧ small d y = true ∧ cntL d y ≤ 300 ∧ Bnd y) (fun y hy z hz => ?_) q n it.node ⟨E, Nat.le_refl _, hE.1, hc, hb⟩ hq
    obtain ⟨d, h1, h2, h3, h4⟩ := hy
    cases d with
    | zero => simp [small] at h2
    | succ d =>
      obtain ⟨s1, s2, s3⟩ := small_succ.1 h2
      have : cntL d z ≤ (y.f6.map (cntL d)).sum := le_sum (List.mem_map.2 ⟨_, hz, rfl⟩)
      have e : cntL (d + 1) y = 1 + y.f4.length + (y.f6.map (cntL d)).sum := rfl
      exact ⟨d, by omega, s3 z hz, by omega, h4.kids z hz⟩
  have hcat := kidsF_txt e g n [] ⟨#[]⟩ its E hse heE hits hn
  have hcmp := cmp_ev E n (its.map (·.node)) (by simpa using hl) (fun y hy => by
    obtain ⟨it, hit, rfl⟩ := List.mem_map.1 hy
    obtain ⟨d, h1, h2, h3, h4⟩ := hP it hit
    have hu := up_le h2 h1
    exact ⟨hu.1, h4, by rw [hu.2.2]; exact h3⟩) hE.1 hb hc (by rw [List.map_map]; exact hcat) (its.map (·.node)).length 0 (by omega)
  refine Ev.step (fun k => ?_) (Ev.bind (f := fun k t => arboristlaw46_FieldsAll_.l0 k (⟨#[]⟩ : ByteArray) t 0 n.f0 n.f1 n.f2 n.f3 n.f4 n.f5 n.f6) hK hcmp)
  simp only [J0, arboristlaw46_FieldsAll_.j0]
  rw [if_neg (by decide), kids_eq]
end
theorem FieldsAll : ∀ (x0 : S27) (x1 : S32), x0.f3.length ≤ 9223372036854775807 → Bnd x1 → ∃ k, arboristlaw46_FieldsAll.f k x0.f0 x0.f1 x0.f2 x0.f3 x0.f4 x1.f0 x1.f1 x1.f2 x1.f3 x1.f4 x1.f5 x1.f6 = some true := by
  intro x0 n hg3 hB
  have hk : ∀ g : Gr, Ev (fun k => J0 g n k true) true := fun g =>
    Ev.step (fun k => by simp only [J0, arboristlaw46_FieldsAll_.j0, if_true]) (Ev.bind (f := fun _ t => some t) knows_ev (Ev.now _))
  have main : ∀ g : Gr, g.g3.length ≤ 9223372036854775807 → Ev (fun k => arboristlaw46_FieldsAll_.f k g.g0 g.g1 g.g2 g.g3 g.g4 n.f0 n.f1 n.f2 n.f3 n.f4 n.f5 n.f6) true := by
    intro g hg3
    obtain ⟨b, hb, hfew⟩ := few_tot g
    let R : Nat → Option Bool := fun k => arboristref42_Right.f k g.g0 g.g1 g.g2 g.g3 g.g4 n.f0 n.f1 n.f2 n.f3 n.f4 n.f5 n.f6
    unfold arboristlaw46_FieldsAll_.f
    refine Ev.bind (f := fun k t => if t = true then ((arboristlaw46_Nodes.f k n.f0 n.f1 n.f2 n.f3 n.f4 n.f5 n.f6 300).bind fun t422 => if t422 ≥ 300 then J0 g n k true else if (n.f6.length : Int) = 0 then J0 g n k true else (R k).bind fun t423 => J0 g n k (!t423)) else J0 g n k true) hb ?_
    cases b with
    | false => exact Ev.congr (fun k => if_neg (by decide)) (hk g)
    | true =>
      refine Ev.congr (fun k => if_pos rfl) ?_
      obtain ⟨h2, h40, hlev⟩ := hfew rfl
      obtain ⟨t, ht⟩ := nodes_ev 300 (by omega) n 300 (by omega) (by omega)
      refine Ev.bind (f := fun k t422 => if t422 ≥ 300 then J0 g n k true else if (n.f6.length : Int) = 0 then J0 g n k true else (R k).bind fun t423 => J0 g n k (!t423)) ht ?_
      by_cases h3 : t ≥ 300
      · exact Ev.congr (fun k => if_pos h3) (hk g)
      · refine Ev.congr (fun k => if_neg h3) ?_
        by_cases h0 : (n.f6.length : Int) = 0
        · exact Ev.congr (fun k => if_pos h0) (hk g)
        · refine Ev.congr (fun k => if_neg h0) ?_
          obtain ⟨kk, hkk⟩ := ht.rounds
          obtain ⟨_, hsp⟩ := specL kk n 300 t hkk (by omega) (by omega)
          obtain ⟨hsk, hck⟩ := hsp (by omega)
          obtain ⟨kk', rfl⟩ : ∃ j, kk = j + 1 := by
            cases kk with
            | zero => simp [small] at hsk
            | succ j => exact ⟨j, rfl⟩
          obtain ⟨rb, hrb, hr1⟩ := right_tot g n kk' hsk h2 hg3 (by omega) hlev
          refine Ev.bind (f := fun k t423 => J0 g n k (!t423)) hrb ?_
          cases rb with
          | false => exact hk g
          | true =>
            have hn := hr1 rfl
            obtain ⟨_, hsq⟩ := spec (kk' + 1) n 300 t hkk (by omega) (by omega)
            obtain ⟨hs0, hc0⟩ := hsq (by omega)
            obtain ⟨e, he, hse, hce⟩ := small_low (kk' + 1) n 300 hs0 (by omega)
            obtain ⟨its, h4, h5, h6⟩ := kidsF_some e g n [] ⟨#[]⟩ hse (by simp; omega)
            have hcE := (up_le (E := e + (kk' + 1)) hsk (by omega)).2.2
            exact j0_ev g n (e + (kk' + 1)) e (by omega) its h4 (by omega) (fun it hit => (h6 it hit).1) hse (by omega) hB (by omega)
  obtain ⟨k, hkk⟩ := (main ⟨x0.f0, x0.f1, x0.f2, x0.f3, x0.f4⟩ hg3).rounds
  refine ⟨k, ?_⟩
  unfold arboristlaw46_FieldsAll.f
  rw [hkk]
  rfl
end Go.Proofs.Ytgdbcogbbghjaaa.Pure
