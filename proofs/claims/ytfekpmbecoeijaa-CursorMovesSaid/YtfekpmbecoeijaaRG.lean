import Derived.Test.YtfekpmbecoeijaaWX
import Derived.RangeFuncNested
import Derived.RangeFuncLeaves
import Derived.RangeFuncCalls
import Derived.OrdersIn
import Derived.TacticsIn
import Derived.ArgAppend
import Derived.Deep.AppendLies
import Derived.Deep.RegionHeldLaw
namespace Go.Proofs.Ytfekpmbecoeijaa.RF
open Go.RowKit Go.Proofs.YtfekpmbecoeijaaW.PrintWords
set_option linter.unusedVariables false
structure Chg (T : Nat → Prop) (w w' : World) : Prop where
  os : w'.os = w.os
  tape : w'.tape = w.tape
  output : w'.output = w.output
  size : w.heap.size ≤ w'.heap.size
  block : ∀ k, k < w.heap.size → ¬ T k → w'.heap[k]? = w.heap[k]?
namespace Chg
variable {T T' : Nat → Prop} {w w' w2 : World}
theorem refl (T : Nat → Prop) (w : World) : Chg T w w := ⟨rfl, rfl, rfl, Nat.le_refl _, fun _ _ _ => rfl⟩
theorem mono (h : Chg T w w') (hT : ∀ k, k < w.heap.size → T k → T' k) : Chg T' w w' := ⟨h.os, h.tape, h.output, h.size, fun k hk hn => h.block k hk (fun ht => hn (hT k hk ht))⟩
theorem trans (h : Chg T w w') (k : Chg T' w' w2) (hT : ∀ i, i < w.heap.size → T' i → T i) : Chg T w w2 :=
  ⟨k.os.trans h.os, k.tape.trans h.tape, k.output.trans h.output, Nat.le_trans h.size k.size, fun i hi hn => (k.block i (Nat.lt_of_lt_of_le hi h.size) (fun ht => hn (hT i hi ht))).trans (h.block i hi hn)⟩
theorem of_below (T : Nat → Prop) (h : Below w.heap.size w w') : Chg T w w' := ⟨h.os, h.tape, h.output, h.size, fun k hk _ => h.block k hk⟩
theorem below (h : Chg T w w') (hT : ∀ k, k < w.heap.size → ¬ T k) : Below w.heap.size w w' := ⟨h.os, h.tape, h.output, h.size, fun k hk => h.block k hk (hT k hk)⟩
theorem below_then {B : Nat} {w0 : World} (hb : Below B w0 w) (h : Chg T w w') (hB : B ≤ w.heap.size) (hT : ∀ k, k < B → ¬ T k) : Below B w0 w' :=
  ⟨h.os.trans hb.os, h.tape.trans hb.tape, h.output.trans hb.output, Nat.le_trans hb.size h.size, fun k hk => (h.block k (Nat.lt_of_lt_of_le hk hB) (hT k hk)).trans (hb.block k hk)⟩
theorem kept (h : Chg T w w') : Kept w w' T := ⟨h.size, h.block⟩
theorem put (w : World) (l : Nat) (o : Obj) (hl : T l) : Chg T w (w.putObj l o) := ⟨rfl, rfl, rfl, by simp, fun k _ hn => World.putObj_heap_other (fun e => hn (e ▸ hl))⟩
theorem alloc (T : Nat → Prop) (w : World) (o : Obj) : Chg T w (w.alloc o) := of_below T (below_alloc (Below.refl _ _) o)
theorem set (w : World) (p : Addr) (v : Value) (hl : T p.block) : Chg T w (w.setCell p v) := ⟨rfl, rfl, rfl, by simp [World.setCell], fun k _ hn => Below.heap_setCell w p v k (fun e => hn (e ▸ hl))⟩
theorem same (h : Chg T w w') {k : Nat} {o : Obj} (hk : w.heap[k]? = some o) (hn : ¬ T k) : w'.heap[k]? = some o := (h.block k (Array.getElem?_eq_some_iff.1 hk).1 hn).trans hk
end Chg
structure Stable (B : Nat) (J : Nat → (Nat → Prop) → World → Prop) : Prop where
  bound : ∀ {i S W}, J i S W → B ≤ W.heap.size ∧ ∀ k, S k → k < W.heap.size
  step : ∀ {i S W W'}, J i S W → Chg (fun k => B ≤ k ∧ ¬ S k) W W' → J i S W'
def Fr (S : Nat → Prop) (W : World) : Nat → Prop := fun k => ¬ S k ∧ k < W.heap.size
def Gives (P : Program) (gf : FuncId) (lb : Array Value) (N : Nat) (It : Nat → Value → World → (Nat → Prop) → Prop) (Pre : World → (Nat → Prop) → Prop) : Prop :=
  ∀ (l : Nat) (J : Nat → (Nat → Prop) → World → Prop) (S0 : Nat → Prop) (W : World), Stable W.heap.size J → J 0 S0 W → Pre W (Fr S0 W) →
    (∀ i S W1 v, i < N → J i S W1 → It i v W1 (Fr S W1) → YieldAt Fence.wide 0 P l #[v] W1 fun e W' => e = .returned (.bool true) ∧ ∃ S', J (i + 1) S' W' ∧ Chg S W1 W' ∧ ∀ k, S' k → S k ∨ W1.heap.size ≤ k) →
    CallsIn Fence.wide 0 P gf (#[.func (.yield l) #[] #[]] ++ lb) W fun e W' => (∃ v, e = .returned v) ∧ ∃ S', J N S' W'
def RPost (I : Nat → (Nat → Prop) → World → Prop) (i : Nat) (S : Nat → Prop) (W W1 : World) : Exit → Act → World → Prop := fun e _ W2 =>
  e = .normal ∧ ∃ S', I (i + 1) S' W2 ∧ Chg S W1 W2 ∧ ∀ k, S' k → S k ∨ W.heap.size ≤ k
theorem range {P : Program} {g : Operand} {p : Tmp} {assign body : Code} {Q : Exit → Act → World → Prop} {a : Act} {w : World} {gf : Nat} {lb : Array Value} {N : Nat}
    {It : Nat → Value → World → (Nat → Prop) → Prop} {Pre : World → (Nat → Prop) → Prop}
    (hg : a.eval g = .func (.func gf) #[] lb) (eg : ∀ args w, (callFunc gf args).run P w = .ok (.enter gf args) w) (hit : Gives P gf lb N It Pre)
    (I : Nat → (Nat → Prop) → World → Prop) (hI : Stable w.heap.size I) (S0 : Nat → Prop) (h0 : I 0 S0 w)
    (hpre : ∀ W' (ok : Nat → Prop), Below w.heap.size w W' → (∀ k, k < w.heap.size → ¬ S0 k → ok k) → Pre W' ok)
    (hmono : ∀ {i v W} {ok ok' : Nat → Prop}, (∀ k, ok k → ok' k) → It i v W ok → It i v W ok')
    (hbody : ∀ l i S W v, i < N → I i S W → ¬ S l → w.heap.size ≤ l → (∃ r, W.heap[l]? = some (.loop r)) → It i v W (fun k => Fr S W k ∧ k ≠ l) →
      assign.wpIn (Fence.wide.inRound l) 0 P (Exit.then (fun a1 W1 => W1.heap[l]? = W.heap[l]? ∧ Chg S W W1 ∧ ∀ o, body.wpIn (Fence.wide.inRound l) 0 P (RPost I i S W (W1.putObj l (.loop o))) a1 (W1.putObj l (.loop o))) (fun _ _ _ => False))
        { tmps := a.tmps.setIfInBounds p v, defers := [] } W)
    (hdone : ∀ D S W, I N S W → ¬ S D → w.heap.size ≤ D → W.heap[D]? = some (.deferred (some [])) → Q .normal { a with defers := { target := .collected D, args := #[] } :: a.defers } W) :
    (Code.rangeFunc g #[p] assign body).wp P Q a w := by
  refine wpIn_wide (n := 0) |>.1 (wpIn_rangeFunc ?_)
  intro fn hfn
  obtain ⟨rec, hrec⟩ : ∃ rec : LoopState → Option Code → Loop, rec = fun st pe => { state := st, pending := pe, fn, tmps := a.tmps, params := #[p], assign, body, defers := w.heap.size } := ⟨_, rfl⟩
  obtain ⟨W1, hW1⟩ : ∃ W1, (w.alloc (.deferred (some []))).alloc (.loop (rec .ready none)) = W1 := ⟨_, rfl⟩
  have hL1 : W1.heap[w.heap.size + 1]? = some (.loop (rec .ready none)) := by
    rw [← hW1]; have := World.alloc_heap_new (w.alloc (.deferred (some []))) (.loop (rec .ready none)); rwa [World.size_alloc] at this
  have hK1 : W1.heap[w.heap.size]? = some (.deferred (some [])) := by
    rw [← hW1]; exact (Below.heap_alloc _ _ _ (by simp)).trans (World.alloc_heap_new w _)
  have hb1 : Below w.heap.size w W1 := by rw [← hW1]; exact below_alloc (below_alloc (Below.refl _ _) _) _
  have hsz : W1.heap.size = w.heap.size + 1 + 1 := by rw [← hW1]; simp
  have hI1 : I 0 S0 W1 := hI.step h0 (Chg.of_below _ hb1)
  have hS0 : ∀ k, S0 k → k < w.heap.size := (hI.bound h0).2
  refine ⟨w.heap.size + 1, [{ target := .collected w.heap.size, args := #[] }], W1, { target := .fn (.func gf) lb, args := #[.func (.yield (w.heap.size + 1)) #[] #[]] }, W1, gf,
    #[.func (.yield (w.heap.size + 1)) #[] #[]] ++ lb, W1, ?_, ?_, ?_, ?_, (fun h => by cases h), ?_⟩
  · rw [← hW1, hrec]; exact run_enterLoop_outer _ _ _ _ _
  · simp only [resolve, hg]
    simp [go_sem]
  · intro f' _; trivial
  · simp [invoke, go_sem, eg]
  · refine (hit (w.heap.size + 1)
      (fun i S W => ∃ SI, I i SI W ∧ (∀ k, S k ↔ SI k ∨ k = w.heap.size + 1 ∨ k = w.heap.size) ∧ ¬ SI (w.heap.size + 1) ∧ ¬ SI w.heap.size ∧ W.heap[w.heap.size + 1]? = some (.loop (rec .ready none)) ∧ W.heap[w.heap.size]? = some (.deferred (some [])) ∧ w.heap.size + 1 < W.heap.size)
      (fun k => S0 k ∨ k = w.heap.size + 1 ∨ k = w.heap.size) W1 ?_ ⟨S0, hI1, fun k => Iff.rfl, fun h => by have := hS0 _ h; omega, fun h => by have := hS0 _ h; omega, hL1, hK1, by omega⟩ ?_ ?_).mono ?_
    · refine ⟨?_, ?_⟩
      · rintro i S W ⟨SI, hi, hS, h1, h2, h3, h4, h5⟩
        refine ⟨by omega, fun k hk => ?_⟩
        rcases (hS k).1 hk with h | rfl | rfl
        · exact (hI.bound hi).2 k h
        · exact h5
        · omega
      · rintro i S W W' ⟨SI, hi, hS, h1, h2, h3, h4, h5⟩ hc
        have hn1 : ¬ (W1.heap.size ≤ w.heap.size + 1 ∧ ¬ S (w.heap.size + 1)) := fun h => by omega
        have hn2 : ¬ (W1.heap.size ≤ w.heap.size ∧ ¬ S w.heap.size) := fun h => by omega
        exact ⟨SI, hI.step hi (hc.mono fun k _ hk => ⟨by omega, fun h => hk.2 ((hS k).2 (.inl h))⟩), hS, h1, h2, hc.same h3 hn1, hc.same h4 hn2, Nat.lt_of_lt_of_le h5 hc.size⟩
    · refine hpre W1 _ hb1 fun k hk hn => ⟨fun h => ?_, by omega⟩
      rcases h with h | rfl | rfl
      · exact hn h
      · omega
      · omega
    · rintro i S W v hiN ⟨SI, hi, hS, h1, h2, h3, h4, h5⟩ hit2
      have hy := run_yield (P := P) (args := #[v]) h3 (by rw [hrec]; rfl)
      rw [hrec] at hy
      refine ⟨fn, _, assign, body, hy, roundIn_of_wpIn trivial ?_⟩
      have hb := hbody (w.heap.size + 1) i SI W v hiN hi h1 (by omega) ⟨_, h3⟩ (hmono (fun k hk => ⟨⟨fun h => hk.1 ((hS k).2 (.inl h)), hk.2⟩, fun e => hk.1 ((hS k).2 (.inr (.inl e)))⟩) hit2)
      rw [show ∀ (t : Array Value), Array.foldl (fun tmps (x : Tmp × Value) => match x with | (t, a) => tmps.setIfInBounds t a) t (#[p].zip #[v]) = t.setIfInBounds p v from fun t => by simp]
      refine wpIn_mono hb ?_
      intro e a1 Wa hq
      cases e with
      | normal =>
        obtain ⟨hla, hca, hbo⟩ := hq
        rw [h3] at hla
        refine ⟨_, run_beginRound hla (by rw [hrec]), ?_⟩
        refine wpIn_mono (hbo _) ?_
        rintro e a2 W2 ⟨rfl, S', hI2, hc2, hs2⟩
        have hlt : w.heap.size + 1 < Wa.heap.size := Nat.lt_of_lt_of_le h5 hca.size
        have hl2 : (Wa.putObj (w.heap.size + 1) (.loop { rec .ready none with state := .busy })).heap[w.heap.size + 1]? = some (.loop { rec .ready none with state := .busy }) := World.putObj_heap_same hlt
        have hl3 := hc2.same hl2 h1
        have hD1 := hca.same h4 h2
        have hD2 : (Wa.putObj (w.heap.size + 1) (.loop { rec .ready none with state := .busy })).heap[w.heap.size]? = some (.deferred (some [])) := (World.putObj_heap_other (by omega)).trans hD1
        have hD3 := hc2.same hD2 h2
        have hlt2 : w.heap.size + 1 < W2.heap.size := Nat.lt_of_lt_of_le (by simpa using hlt) hc2.size
        have hr := run_endRound (P := P) none hl3
        have hn : ¬ S' (w.heap.size + 1) := fun h => (hs2 _ h).elim h1 (fun h => by omega)
        have hn' : ¬ S' w.heap.size := fun h => (hs2 _ h).elim h2 (fun h => by omega)
        refine ⟨_, _, hr, rfl, (fun k => S' k ∨ k = w.heap.size + 1 ∨ k = w.heap.size), ⟨S', hI.step hI2 (Chg.put _ _ _ ⟨by omega, hn⟩), fun k => Iff.rfl, hn, hn', ?_, ?_, ?_⟩, ?_, ?_⟩
        · rw [hrec]; exact World.putObj_heap_same hlt2
        · exact (World.putObj_heap_other (by omega)).trans hD3
        · simpa using hlt2
        · have c1 : Chg S W Wa := hca.mono fun k _ h => (hS k).2 (.inl h)
          have c2 : Chg S Wa (Wa.putObj (w.heap.size + 1) (.loop { rec .ready none with state := .busy })) := Chg.put _ _ _ ((hS _).2 (.inr (.inl rfl)))
          have c3 : Chg S (Wa.putObj (w.heap.size + 1) (.loop { rec .ready none with state := .busy })) W2 := hc2.mono fun k _ h => (hS k).2 (.inl h)
          exact ((c1.trans c2 (fun _ _ h => h)).trans c3 (fun _ _ h => h)).trans (Chg.put _ _ _ ((hS _).2 (.inr (.inl rfl)))) (fun _ _ h => h)
        · rintro k (h | h | h)
          · exact (hs2 k h).imp (fun h => (hS k).2 (.inl h)) id
          · exact .inl ((hS k).2 (.inr (.inl h)))
          · exact .inl ((hS k).2 (.inr (.inr h)))
      | exit id => exact hq.elim
      | ret => exact hq.elim
      | goto t => exact hq.elim
      | panic c => exact hq.elim
      | outgrown => exact hq.elim
    · rintro e W2 ⟨⟨v, rfl⟩, S', SI, hi, hS, h1, h2, h3, h4, h5⟩
      refine ⟨none, _, by have := run_endLoop (P := P) h3 (by rw [hrec]; simp); rw [hrec] at this; exact this, ?_⟩
      refine hdone w.heap.size SI _ (hI.step hi (Chg.put _ _ _ ⟨by omega, h1⟩)) h2 (Nat.le_refl _) ?_
      exact (World.putObj_heap_other (by omega)).trans h4
end Go.Proofs.Ytfekpmbecoeijaa.RF
namespace Go.Proofs.Ytfekpmbecoeijaa.RF
open Go.RowKit Go.Proofs.YtfekpmbecoeijaaW.PrintWords Go.Proofs.YtfekpmbecoeijaaW.PrintLast
variable {P : Program} {ops : Array Oper} {Q : Exit → Act → World → Prop} {md : Region.Mode}
theorem run_append_full {P : Program} (w : World) (t ty e : TypeId) (i : TypeInfo) (z : Value) (size bytes : Nat) (ht : P.underlying t = some (.slice e)) (hi : P.info? e = some i) (hz : i.zero = some z)
    (hsize : i.size = size) (hby : i.bytes = bytes) (hzs : z.cells.size = size) (hsz : 0 < size)
    (ao : Option Addr) (n cap : Nat) (olds : List Value) (hnone : ao = none → n = 0 ∧ cap = 0) (hlo : olds.length = n * size) (holds : ∀ b, ao = some b → ∀ j u, olds[j]? = some u → w.cell? (b.add j) = some u)
    (ad : Addr) (m c : Nat) (news : List Value) (hl : news.length = m * size) (hnews : ∀ j u, news[j]? = some u → w.cell? (ad.add j) = some u) (h1 : ∀ u ∈ news, u.oneCell' = true)
    (hm : 0 < m) (hfull : cap < n + m) (h63 : n + m ≤ maxLen) (hbytes : (n + m) * bytes ≤ 140737488355328) :
    ∃ g c' w', (Builtin.append_ #[t, t] ty #[.slice ao n cap, .slice (some ad) m c]).run P w = .ok (.slice (some ⟨g, 0, none⟩) (n + m) c') w' ∧
      w'.ownsRow w.heap.size e size (.slice (some ⟨g, 0, none⟩) (n + m) c') (n + m) (olds ++ news) ∧ w.grownBy w' none ∧ w.heap.size ≤ g ∧ g < w'.heap.size := by
  cases ao with
  | some b =>
    obtain ⟨v', w', hrun, r1, r2⟩ := run_append_arg_grows (P := P) w t ty e i z size bytes ht hi hz hsize hby hzs hsz b n cap olds hlo (holds b rfl) ad m c news hl hnews hfull h63 hbytes
    obtain ⟨g, c', rfl, hg, hlt⟩ := r1.form (by omega)
    exact ⟨g, c', w', hrun, r1, r2, hg, hlt⟩
  | none =>
    obtain ⟨rfl, rfl⟩ := hnone rfl
    obtain rfl : olds = [] := List.eq_nil_of_length_eq_zero (by simpa using hlo)
    obtain ⟨v', w', hrun, r1, r2, _⟩ := run_append_own (P := P) w w.heap.size t ty e i z size bytes ht hi hz hsize hby hzs hsz (.slice none 0 0) 0 [] (World.ownsRow_nil w _ e size) ad m c news hl hnews h1 h63 hbytes (Nat.le_refl _)
    obtain ⟨g, c', rfl, hg, hlt⟩ := r1.form (by omega)
    exact ⟨g, c', w', hrun, r1, r2, hg, hlt⟩
theorem step_append_full {P : Program} (w : World) {ops : Array Oper} {o : Oper} {a : Act} {K : Act → World → Prop} {Q : Exit → Act → World → Prop} {E : Prop} (hgd : o.guard = none) (s x : Operand) (t : TypeId)
    (ho : o.op = .call { callee := .builtin .append, args := #[s, x], argTypes := #[t, t] })
    (e : TypeId) (i : TypeInfo) (z : Value) (size bytes : Nat) (ht : P.underlying t = some (.slice e)) (hi : P.info? e = some i) (hz : i.zero = some z)
    (hsize : i.size = size) (hby : i.bytes = bytes) (hzs : z.cells.size = size) (hsz : 0 < size)
    (ao : Option Addr) (n cap : Nat) (olds : List Value) (hs : a.eval s = .slice ao n cap) (hnone : ao = none → n = 0 ∧ cap = 0) (hlo : olds.length = n * size) (holds : ∀ b, ao = some b → ∀ j u, olds[j]? = some u → w.cell? (b.add j) = some u)
    (ad : Addr) (m c : Nat) (news : List Value) (hx : a.eval x = .slice (some ad) m c) (hl : news.length = m * size) (hnews : ∀ j u, news[j]? = some u → w.cell? (ad.add j) = some u) (h1 : ∀ u ∈ news, u.oneCell' = true)
    (hm : 0 < m) (hfull : cap < n + m) (h63 : n + m ≤ maxLen) (hbytes : (n + m) * bytes ≤ 140737488355328)
    (h : ∀ g c' w', w'.ownsRow w.heap.size e size (.slice (some ⟨g, 0, none⟩) (n + m) c') (n + m) (olds ++ news) → w.grownBy w' none → w.heap.size ≤ g → g < w'.heap.size → K (a.put o.dst (.slice (some ⟨g, 0, none⟩) (n + m) c')) w') :
    if Region.wanted o (yielded ops a.tmps) = true then Oper.wp P o a w K Q else E := by
  have hw : Region.wanted o (yielded ops a.tmps) = true := by simp [Region.wanted, hgd]
  rw [if_pos hw]
  obtain ⟨g, c', w', hr, h2, h3, h4, h5⟩ := run_append_full (P := P) w t o.type e i z size bytes ht hi hz hsize hby hzs hsz ao n cap olds hnone hlo holds ad m c news hl hnews h1 hm hfull h63 hbytes
  unfold Oper.wp execOp
  simp only [ho, resolve, invoke, builtin, Sem.run_bind, Sem.run_pure, Result.andThen_ok, List.map_toArray, List.map_cons, List.map_nil, hs, hx, hr]
  exact h g c' w' h2 h3 h4 h5
end Go.Proofs.Ytfekpmbecoeijaa.RF
