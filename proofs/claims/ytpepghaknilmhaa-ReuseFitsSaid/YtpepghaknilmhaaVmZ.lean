/- The machine of plain values: operations as functions of what their operands are, with laws under conditions. Written once for all seats. -/
import Derived.Test.YtpepghaknilmhaaVmY
namespace Go.Proofs.Ytpepghaknilmhaa.Vm
open Go
set_option linter.unusedVariables false
set_option linter.unusedSimpArgs false

/-! An element's address. -/
def idxS (P : Program) (t : TypeId) (x i : PV) : Option (PV × Eff) :=
  match i, P.underlying t with
    | .d (.int _ i), some (.array len elem) => match sz? P elem with
      | some sz => if 0 ≤ i ∧ i < len then (match x with
        | .ptr id off => some (.ptr id (off + i.toNat * sz), .none)
        | .rd cells => some (.rd (cells.drop (i.toNat * sz)), .none)
        | _ => none) else none
      | none => none
    | .d (.int _ i), some (.slice elem) => match sz? P elem with
      | some sz => (match x with
        | .ref id off n sz' => if 0 ≤ i ∧ i < n ∧ sz' = sz then some (.ptr id (off + i.toNat * sz), .none) else none
        | .d (.list _ _ n cells) => if 0 ≤ i ∧ i < n ∧ 0 < cells.length then some (.rd (cells.drop (i.toNat * sz)), .none) else none
        | _ => none)
      | none => none
    | _, _ => none
/-- An array's type: its length, its elements' size. -/
def arr? (P : Program) (t : TypeId) : Option (Nat × Nat) := match P.underlying t with
  | some (.array len elem) => (sz? P elem).map fun s => (len, s)
  | _ => none
section
variable {P : Program} {own : Bool} {nid : Nat} {get : Nat → Option Obj} {ρ : Operand → PV} {dst : Option Tmp} {ty : TypeId} {pos : String} {after : Array Edge} {guard : Option (Nat × Bool)} {t t' u : TypeId} {x y : Operand} {k : IntKind} {z : Int}
theorem o1_idx : op1 P own nid get ⟨dst, .indexAddr t x y, ty, pos, after, guard⟩ ρ = idxS P t (ρ x) (ρ y) := rfl
theorem sz_slice (h : isSl P t = true) : ∃ e, P.underlying t = some (.slice e) ∧ sz? P e = some (esz P t) := by
  have h1 := isSl_spec h
  unfold elt at h1
  split at h1
  · rename_i n e hu; obtain ⟨m, _, h3⟩ := Option.map_eq_some_iff.1 h1; simp at h3
  · rename_i e hu
    obtain ⟨m, h2, h3⟩ := Option.map_eq_some_iff.1 h1
    simp only [Prod.mk.injEq, true_and] at h3
    exact ⟨e, hu, by rw [h2, h3]⟩
  · cases h1
theorem idx_data {nl tt : Bool} {n : Nat} {cells : List DV} (h : isSl P t = true) (h0 : 0 ≤ z) (h1 : z < n) (hc : 0 < cells.length) : idxS P t (.d (.list nl tt n cells)) (.d (.int k z)) = some (.rd (cells.drop (z.toNat * esz P t)), .none) := by
  obtain ⟨e, hu, hs⟩ := sz_slice h
  unfold idxS
  simp only [hu, hs]
  rw [if_pos ⟨h0, h1, hc⟩]
theorem idx_ref {id off n sz : Nat} (h : isSl P t = true) (hs : esz P t = sz) (h0 : 0 ≤ z) (h1 : z < n) : idxS P t (.ref id off n sz) (.d (.int k z)) = some (.ptr id (off + z.toNat * sz), .none) := by
  obtain ⟨e, hu, hs'⟩ := sz_slice h
  unfold idxS
  simp only [hu, hs']
  rw [if_pos ⟨h0, h1, hs.symm⟩, hs]
def arrLen (P : Program) (t : TypeId) : Nat := match arr? P t with | some (n, _) => n | none => 0
def arrSz (P : Program) (t : TypeId) : Nat := match arr? P t with | some (_, n) => n | none => 0
def isArr (P : Program) (t : TypeId) : Bool := (arr? P t).isSome
theorem arr_spec (h : isArr P t = true) : ∃ e, P.underlying t = some (.array (arrLen P t) e) ∧ sz? P e = some (arrSz P t) := by
  unfold isArr at h
  unfold arrLen arrSz
  cases ha : arr? P t with
  | none => rw [ha] at h; cases h
  | some p =>
    obtain ⟨n, s⟩ := p
    unfold arr? at ha
    split at ha
    · rename_i len e hu
      obtain ⟨m, h2, h3⟩ := Option.map_eq_some_iff.1 ha
      simp only [Prod.mk.injEq] at h3
      obtain ⟨rfl, rfl⟩ := h3
      exact ⟨e, hu, h2⟩
    · cases ha
theorem idx_aptr {id off : Nat} (h : isArr P t = true) (h0 : 0 ≤ z) (h1 : z < arrLen P t) : idxS P t (.ptr id off) (.d (.int k z)) = some (.ptr id (off + z.toNat * arrSz P t), .none) := by
  obtain ⟨e, hu, hs⟩ := arr_spec h
  unfold idxS
  simp only [hu, hs]
  rw [if_pos ⟨h0, h1⟩]
theorem idx_ard {cells : List DV} (h : isArr P t = true) (h0 : 0 ≤ z) (h1 : z < arrLen P t) : idxS P t (.rd cells) (.d (.int k z)) = some (.rd (cells.drop (z.toNat * arrSz P t)), .none) := by
  obtain ⟨e, hu, hs⟩ := arr_spec h
  unfold idxS
  simp only [hu, hs]
  rw [if_pos ⟨h0, h1⟩]

theorem bn_eql {nl tt : Bool} {n : Nat} {cs : List DV} : binI P t .eql (.d (.list nl tt n cs)) (.d (.list true true 0 [])) = if isSl P t = true then some (.d (.bool nl)) else none := rfl
theorem bn_neq {nl tt : Bool} {n : Nat} {cs : List DV} : binI P t .neq (.d (.list nl tt n cs)) (.d (.list true true 0 [])) = if isSl P t = true then some (.d (.bool (!nl))) else none := rfl
theorem bn_eqr {i o n s : Nat} : binI P t .eql (.ref i o n s) (.d (.list true true 0 [])) = if isSl P t = true then some (.d (.bool false)) else none := rfl
theorem bn_ner {i o n s : Nat} : binI P t .neq (.ref i o n s) (.d (.list true true 0 [])) = if isSl P t = true then some (.d (.bool true)) else none := rfl
/-! A slice's elements. -/
theorem cont_data {nl tt : Bool} {n : Nat} {cells : List DV} : content get (.d (.list nl tt n cells)) = some (n, cells.map .d) := rfl
def contO (off n sz : Nat) : Option Obj → Option (Nat × List PV)
  | some (.cells _ cs) => if off + n * sz ≤ cs.length then some (n, (cs.drop off).take (n * sz)) else none
  | _ => none
theorem cont_ref {id off n sz : Nat} : content get (.ref id off n sz) = contO off n sz (get id) := rfl
theorem contO_all {n sz : Nat} {b : Bool} {cs : List PV} (h : cs.length = n * sz) : contO 0 n sz (some (.cells b cs)) = some (n, cs) := by
  unfold contO
  simp only
  rw [Nat.zero_add, if_pos (by omega), List.drop_zero, List.take_of_length_le (by omega)]
theorem contO_part {off n sz : Nat} {b : Bool} {cs : List PV} (h : off + n * sz ≤ cs.length) : contO off n sz (some (.cells b cs)) = some (n, (cs.drop off).take (n * sz)) := by
  unfold contO
  simp only
  rw [if_pos h]

theorem ite_iff {α : Type} {p q : Prop} [Decidable p] [Decidable q] {a b : α} (h : p ↔ q) : (if p then a else b) = if q then a else b := by
  by_cases hp : p
  · rw [if_pos hp, if_pos (h.1 hp)]
  · rw [if_neg hp, if_neg (fun hq => hp (h.2 hq))]
/-! append -/
def isApd (P : Program) (t u : TypeId) : Bool := (apd P t u).isSome
def apdSz (P : Program) (t u : TypeId) : Nat := match apd P t u with | some (n, _) => n | none => 0
def apdBy (P : Program) (t u : TypeId) : Nat := match apd P t u with | some (_, n) => n | none => 0
/-- What append comes to. -/
def apF (P : Program) (t u : TypeId) (nid : Nat) (s : PV) : Option (Nat × List PV) → Option (Nat × List PV) → Option (PV × Eff)
  | some (n, old), some (m, new) => match P.underlying t, P.underlying u with
    | some (.slice elem), some (.slice _) => match sz? P elem, (P.info? elem).map (·.bytes), zero? P elem with
      | some sz, some by_, some z =>
        if z.length = sz ∧ 0 < sz ∧ new.length = m * sz ∧ old.length = n * sz ∧ (n + m) * by_ ≤ maxBytes ∧ n + m < 2 ^ 62 ∧ old.all PV.one ∧ new.all PV.one then
          if m = 0 then some (s, .none)
          else match s with
            | .d (.list _ true _ _) => some (.ref nid 0 (n + m) sz, .new nid (.cells false (old ++ new)))
            | .ref id _ _ sz' => if sz' = sz then some (.ref nid 0 (n + m) sz, .mv id nid (.cells false (old ++ new))) else none
            | _ => none
        else none
      | _, _, _ => none
    | _, _ => none
  | _, _ => none
theorem o1_apd : op1 P own nid get ⟨dst, .call { callee := .builtin .append, args := #[x, y], argTypes := #[t, u] }, ty, pos, after, guard⟩ ρ = apF P t u nid (ρ x) (content get (ρ x)) (content get (ρ y)) := by
  unfold op1 apF
  have e1 : (#[t, u][0]?).bind P.underlying = P.underlying t := rfl
  have e3 : (#[t, u][1]?).bind P.underlying = P.underlying u := rfl
  have e4 : (#[x, y][0]?).map ρ = some (ρ x) := rfl
  have e5 : (#[x, y][1]?).map ρ = some (ρ y) := rfl
  simp only [e1, e3, e4, e5]
  cases hu : P.underlying t with
  | none => simp only; split <;> first | rfl | (split <;> first | rfl | (rename_i h; cases h))
  | some td =>
    cases td with
    | slice elem =>
      cases hv : P.underlying u with
      | none => simp only; split <;> first | rfl | (split <;> first | rfl | (rename_i h; cases h))
      | some td2 =>
        cases td2 with
        | slice e2 =>
          simp only
          generalize content get (ρ x) = a
          generalize content get (ρ y) = b
          cases a with
          | none => cases sz? P elem <;> cases (P.info? elem).map (·.bytes) <;> cases zero? P elem <;> rfl
          | some a =>
            obtain ⟨n, old⟩ := a
            cases b with
            | none => cases sz? P elem <;> cases (P.info? elem).map (·.bytes) <;> cases zero? P elem <;> rfl
            | some b =>
              obtain ⟨m, new⟩ := b
              cases sz? P elem <;> cases (P.info? elem).map (·.bytes) <;> cases zero? P elem <;> first | rfl | exact ite_iff (by simp)
        | _ => simp only; split <;> first | rfl | (split <;> first | rfl | (rename_i h; cases h))
    | _ => simp only; split <;> first | rfl | (split <;> first | rfl | (rename_i h; cases h))
theorem apd_spec (h : isApd P t u = true) : ∃ e e2 z, P.underlying t = some (.slice e) ∧ P.underlying u = some (.slice e2) ∧ sz? P e = some (apdSz P t u) ∧ (P.info? e).map (·.bytes) = some (apdBy P t u) ∧ zero? P e = some z ∧ z.length = apdSz P t u ∧ 0 < apdSz P t u := by
  unfold isApd at h
  unfold apdSz apdBy
  cases ha : apd P t u with
  | none => rw [ha] at h; cases h
  | some p =>
    obtain ⟨s, b⟩ := p
    unfold apd at ha
    split at ha
    · rename_i e e2 hu hv
      split at ha
      · rename_i s0 b0 z0 q1 q2 q3
        split at ha
        · rename_i hc
          simp only [Option.some.injEq, Prod.mk.injEq] at ha
          obtain ⟨rfl, rfl⟩ := ha
          exact ⟨e, e2, z0, hu, hv, q1, q2, q3, hc.1, hc.2⟩
        · cases ha
      · cases ha
    · cases ha
variable {n m : Nat} {old new : List PV}
theorem ap_none {s : PV} (h : isApd P t u = true) (h2 : old.length = n * apdSz P t u) (h3 : n * apdBy P t u ≤ maxBytes) (h4 : n < 2 ^ 62) (h5 : old.all PV.one = true) : apF P t u nid s (some (n, old)) (some (0, [])) = some (s, .none) := by
  obtain ⟨e, e2, z, hu, hv, q1, q2, q3, q4, q5⟩ := apd_spec h
  unfold apF
  simp only [hu, hv, q1, q2, q3]
  rw [if_pos ⟨q4, q5, by simp, h2, by simpa using h3, by simpa using h4, h5, rfl⟩]
  rfl
theorem ap_tight {nl : Bool} {k : Nat} {cs : List DV} (h : isApd P t u = true) (hm : 0 < m) (h1 : new.length = m * apdSz P t u) (h2 : old.length = n * apdSz P t u) (h3 : (n + m) * apdBy P t u ≤ maxBytes) (h4 : n + m < 2 ^ 62) (h5 : old.all PV.one = true) (h6 : new.all PV.one = true) : apF P t u nid (.d (.list nl true k cs)) (some (n, old)) (some (m, new)) = some (.ref nid 0 (n + m) (apdSz P t u), .new nid (.cells false (old ++ new))) := by
  obtain ⟨e, e2, z, hu, hv, q1, q2, q3, q4, q5⟩ := apd_spec h
  unfold apF
  simp only [hu, hv, q1, q2, q3]
  rw [if_pos ⟨q4, q5, h1, h2, h3, h4, h5, h6⟩, if_neg (by omega)]
theorem ap_ref {id off k sz : Nat} (h : isApd P t u = true) (hs : apdSz P t u = sz) (hm : 0 < m) (h1 : new.length = m * sz) (h2 : old.length = n * sz) (h3 : (n + m) * apdBy P t u ≤ maxBytes) (h4 : n + m < 2 ^ 62) (h5 : old.all PV.one = true) (h6 : new.all PV.one = true) : apF P t u nid (.ref id off k sz) (some (n, old)) (some (m, new)) = some (.ref nid 0 (n + m) sz, .mv id nid (.cells false (old ++ new))) := by
  subst hs
  obtain ⟨e, e2, z, hu, hv, q1, q2, q3, q4, q5⟩ := apd_spec h
  unfold apF
  simp only [hu, hv, q1, q2, q3]
  rw [if_pos ⟨q4, q5, h1, h2, h3, h4, h5, h6⟩, if_neg (by omega)]
  simp

/-! A slice of given elements. -/
def bsF (P : Program) (t : TypeId) (own : Bool) (nid len : Nat) (parts : List (Nat × PV)) : Option (PV × Eff) := match bsl P t with
  | some (sz, z) => if len * sz ≤ 2 ^ 24 then rowS own nid len sz (fill (fun i => some (i * sz, sz)) ((List.replicate len z).flatten) parts) else none
  | none => none
def bsG (own : Bool) (nid len : Nat) (parts : List (Nat × PV)) : Option (Nat × List PV) → Option (PV × Eff)
  | some (sz, z) => if len * sz ≤ 2 ^ 24 then rowS own nid len sz (fill (fun i => some (i * sz, sz)) ((List.replicate len z).flatten) parts) else none
  | none => none
theorem o1_bs {len : Nat} {parts : Array (Nat × Operand)} : op1 P own nid get ⟨dst, .buildSlice t len parts, ty, pos, after, guard⟩ ρ = bsG own nid len (parts.toList.map fun p => (p.1, ρ p.2)) (bsl P t) := by
  cases h : bsl P t with
  | some p =>
    obtain ⟨sz, z⟩ := p
    by_cases hl : len * sz ≤ 2 ^ 24
    · rw [o1_buildSlice h hl]
      unfold bsG
      simp only [if_pos hl]
    · unfold bsG
      simp only [if_neg hl]
      unfold bsl at h
      unfold op1
      split at h
      · rename_i elem hu
        simp only [hu]
        split at h
        · rename_i s0 z0 h1 h2
          split at h
          · rename_i hc
            simp only [Option.some.injEq, Prod.mk.injEq] at h
            obtain ⟨rfl, rfl⟩ := h
            simp only [h1, h2]
            rw [if_neg (fun hh => hl hh.2.2)]
          · cases h
        · cases h
      · cases h
  | none =>
    unfold bsG
    unfold bsl at h
    unfold op1
    simp only
    split at h
    · rename_i elem hu
      simp only [hu]
      split at h
      · rename_i s0 z0 h1 h2
        split at h
        · cases h
        · rename_i hc
          simp only [h1, h2]
          rw [if_neg (fun hh => hc ⟨hh.1, hh.2.1⟩)]
      · rename_i hn
        split
        · rename_i a b c d; exact absurd d (hn _ _ c)
        · rfl
    · rename_i hn
      split
      · rename_i elem hu; exact absurd hu (hn elem)
      · rfl
theorem bsG_some {len sz : Nat} {z : List PV} {parts : List (Nat × PV)} (hl : len * sz ≤ 16777216) : bsG own nid len parts (some (sz, z)) = rowS own nid len sz (fill (fun i => some (i * sz, sz)) ((List.replicate len z).flatten) parts) := by
  unfold bsG
  simp only
  rw [if_pos (by omega)]
theorem fill_nil {place : Nat → Option (Nat × Nat)} {cells : List PV} : fill place cells [] = some cells := rfl
def fillN (place : Nat → Option (Nat × Nat)) (cells : List PV) (rest : List (Nat × PV)) : Option (Nat × Nat) → Option (List PV) → Option (List PV)
  | some (off, size), some xs => if xs.length = size ∧ off + size ≤ cells.length then fill place (splice cells off xs) rest else none
  | _, _ => none
theorem fill_cons {place : Nat → Option (Nat × Nat)} {cells : List PV} {i : Nat} {v : PV} {rest : List (Nat × PV)} : fill place cells ((i, v) :: rest) = fillN place cells rest (place i) v.cells? := by
  show (match place i, v.cells? with
    | some (off, size), some xs => if xs.length = size ∧ off + size ≤ cells.length then fill place (splice cells off xs) rest else none
    | _, _ => none) = _
  unfold fillN
  rfl
theorem fillN_some {place : Nat → Option (Nat × Nat)} {cells xs : List PV} {rest : List (Nat × PV)} {off size : Nat} (h1 : xs.length = size) (h2 : off + size ≤ cells.length) : fillN place cells rest (some (off, size)) (some xs) = fill place (splice cells off xs) rest := by
  unfold fillN
  simp only
  rw [if_pos ⟨h1, h2⟩]
theorem dataAll_d {l : List DV} : dataAll (l.map .d) = some l := by
  unfold dataAll
  induction l with
  | nil => rfl
  | cons a l ih => rw [List.map_cons, List.mapM_cons, ih]; rfl
theorem dataAll_nil : dataAll [] = some [] := rfl
theorem dataAll_cons {a : DV} {l : List PV} : dataAll (.d a :: l) = (dataAll l).map fun r => a :: r := by
  unfold dataAll
  rw [List.mapM_cons]
  cases List.mapM data? l <;> rfl
theorem rowS_data {len sz : Nat} {cs : List PV} {ds : List DV} (h : dataAll cs = some ds) : rowS false nid len sz (some cs) = some (.d (.list false true len ds), .none) := by
  unfold rowS
  simp only [h]
theorem rowS_own {len sz : Nat} {cs : List PV} : rowS true nid len sz (some cs) = some (.ref nid 0 len sz, .new nid (.cells false cs)) := by
  unfold rowS
  simp only
  cases dataAll cs <;> rfl

def rowE (own : Bool) (nid len sz : Nat) (cs : List PV) : Option (List DV) → Option (PV × Eff)
  | some ds => if own = true then some (.ref nid 0 len sz, .new nid (.cells false cs)) else some (.d (.list false true len ds), .none)
  | none => some (.ref nid 0 len sz, .new nid (.cells false cs))
theorem rowS_some {len sz : Nat} {cs : List PV} : rowS own nid len sz (some cs) = rowE own nid len sz cs (dataAll cs) := by
  unfold rowS rowE
  simp only
  cases dataAll cs <;> cases own <;> rfl
theorem rowE_some {len sz : Nat} {cs : List PV} {ds : List DV} : rowE own nid len sz cs (some ds) = if own = true then some (.ref nid 0 len sz, .new nid (.cells false cs)) else some (.d (.list false true len ds), .none) := rfl
theorem rowE_none {len sz : Nat} {cs : List PV} : rowE own nid len sz cs none = some (.ref nid 0 len sz, .new nid (.cells false cs)) := rfl
/-! A struct of given fields. -/
def bld (P : Program) (t : TypeId) : Option (List PV × List (Nat × Nat)) := match zero? P t, P.underlying t with
  | some z, some (.struct fields) => (fields.toList.mapM (fun f => (sz? P f.type).map fun n => (f.offset, n))).map fun places => (z, places)
  | some z, some (.array n elem) => (sz? P elem).map fun sz => (z, (List.range n).map fun i => (i * sz, sz))
  | _, _ => none
def bldS (P : Program) (t : TypeId) : Option (List PV × List (Nat × Nat)) := match zero? P t, P.underlying t with
  | some z, some (.struct fields) => (fields.toList.mapM (fun f => (sz? P f.type).map fun n => (f.offset, n))).map fun places => (z, places)
  | _, _ => none
def bldG (parts : List (Nat × PV)) : Option (List PV × List (Nat × Nat)) → Option (PV × Eff)
  | some (z, places) => (fill (fun i => places[i]?) z parts).map fun cs => (.agg cs, .none)
  | none => none
theorem o1_bld {parts : Array (Nat × Operand)} (h : (bldS P t).isSome = true) : op1 P own nid get ⟨dst, .build t parts, ty, pos, after, guard⟩ ρ = bldG (parts.toList.map fun p => (p.1, ρ p.2)) (bldS P t) := by
  cases hb : bldS P t with
  | none => rw [hb] at h; cases h
  | some p =>
    unfold bldS at hb
    unfold op1
    simp only
    split at hb
    · rename_i z fields h1 h2
      obtain ⟨places, h3, h4⟩ := Option.map_eq_some_iff.1 hb
      subst h4
      simp only [h1, h2, h3]
      rfl
    · cases hb

def bldH (parts : List (Nat × PV)) (alt : Option (PV × Eff)) : Option (List PV × List (Nat × Nat)) → Option (PV × Eff)
  | some p => bldG parts (some p)
  | none => alt
theorem bldH_some {parts : List (Nat × PV)} {alt : Option (PV × Eff)} {p : List PV × List (Nat × Nat)} : bldH parts alt (some p) = bldG parts (some p) := rfl
theorem o1_bldH {parts : Array (Nat × Operand)} : op1 P own nid get ⟨dst, .build t parts, ty, pos, after, guard⟩ ρ = bldH (parts.toList.map fun p => (p.1, ρ p.2)) (op1b P own nid get ⟨dst, .build t parts, ty, pos, after, guard⟩ ρ) (bldS P t) := by
  cases hb : bldS P t with
  | none => rfl
  | some p => rw [o1_bld (by rw [hb]; rfl), hb]; rfl
/-! The same, the types' facts as arguments. -/
def idxG : Option (Option Nat × Nat) → PV → PV → Option (PV × Eff)
  | some (some len, sz), x, .d (.int _ i) => if 0 ≤ i ∧ i < len then (match x with
    | .ptr id off => some (.ptr id (off + i.toNat * sz), .none)
    | .rd cells => some (.rd (cells.drop (i.toNat * sz)), .none)
    | _ => none) else none
  | some (none, sz), .ref id off n sz', .d (.int _ i) => if 0 ≤ i ∧ i < n ∧ sz' = sz then some (.ptr id (off + i.toNat * sz), .none) else none
  | some (none, sz), .d (.list _ _ n cells), .d (.int _ i) => if 0 ≤ i ∧ i < n ∧ 0 < cells.length then some (.rd (cells.drop (i.toNat * sz)), .none) else none
  | _, _, _ => none
theorem idxG_no {o : Option (Option Nat × Nat)} {p q : PV} (h : ∀ k i, q ≠ .d (.int k i)) : idxG o p q = none := by
  unfold idxG
  split <;> first | rfl | exact absurd rfl (h _ _)
theorem idxG_none {p q : PV} : idxG none p q = none := by
  unfold idxG
  split <;> first | rfl | (rename_i h; cases h)
theorem o1_idxG : op1 P own nid get ⟨dst, .indexAddr t x y, ty, pos, after, guard⟩ ρ = idxG (elt P t) (ρ x) (ρ y) := by
  rw [o1_idx]
  generalize ρ x = p
  generalize ρ y = q
  by_cases hq : ∃ k i, q = .d (.int k i)
  · obtain ⟨k, i, rfl⟩ := hq
    unfold idxS elt
    cases hu : P.underlying t with
    | none => exact idxG_none.symm
    | some td =>
      cases td with
      | array len e =>
        cases hs : sz? P e with
        | none => simp only [hs, Option.map_none]; exact idxG_none.symm
        | some sz => simp only [hs]; cases p <;> rfl
      | slice e =>
        cases hs : sz? P e with
        | none => simp only [hs, Option.map_none]; exact idxG_none.symm
        | some sz => simp only [hs]; cases p with
          | d w => cases w <;> rfl
          | _ => rfl
      | _ => exact idxG_none.symm
  · rw [idxG_no (fun k i e => hq ⟨k, i, e⟩)]
    unfold idxS
    split
    · exact absurd ⟨_, _, rfl⟩ hq
    · exact absurd ⟨_, _, rfl⟩ hq
    · rfl
theorem ixg_data {sz n : Nat} {nl tt : Bool} {cells : List DV} (h0 : 0 ≤ z) (h1 : z < n) (hc : 0 < cells.length) : idxG (some (none, sz)) (.d (.list nl tt n cells)) (.d (.int k z)) = some (.rd (cells.drop (z.toNat * sz)), .none) := by
  unfold idxG; simp only; rw [if_pos ⟨h0, h1, hc⟩]
theorem ixg_ref {id off n sz : Nat} (h0 : 0 ≤ z) (h1 : z < n) : idxG (some (none, sz)) (.ref id off n sz) (.d (.int k z)) = some (.ptr id (off + z.toNat * sz), .none) := by
  unfold idxG; simp only; rw [if_pos ⟨h0, h1, trivial⟩]
theorem ixg_aptr {id off len sz : Nat} (h0 : 0 ≤ z) (h1 : z < len) : idxG (some (some len, sz)) (.ptr id off) (.d (.int k z)) = some (.ptr id (off + z.toNat * sz), .none) := by
  unfold idxG; simp only; rw [if_pos ⟨h0, h1⟩]
theorem ixg_ard {len sz : Nat} {cells : List DV} (h0 : 0 ≤ z) (h1 : z < len) : idxG (some (some len, sz)) (.rd cells) (.d (.int k z)) = some (.rd (cells.drop (z.toNat * sz)), .none) := by
  unfold idxG; simp only; rw [if_pos ⟨h0, h1⟩]

def oneC : Option (Nat × List PV) → Bool
  | some (_, l) => l.all PV.one
  | none => false
theorem oneC_some {n : Nat} {l : List PV} : oneC (some (n, l)) = l.all PV.one := rfl
def apG (nid : Nat) (s : PV) : Option (Nat × Nat) → Option (Nat × List PV) → Option (Nat × List PV) → Bool → Bool → Option (PV × Eff)
  | some (sz, by_), some (n, old), some (m, new), true, true =>
    if new.length = m * sz ∧ old.length = n * sz ∧ (n + m) * by_ ≤ maxBytes ∧ n + m < 2 ^ 62 then
      if m = 0 then some (s, .none)
      else match s with
        | .d (.list _ true _ _) => some (.ref nid 0 (n + m) sz, .new nid (.cells false (old ++ new)))
        | .ref id _ _ sz' => if sz' = sz then some (.ref nid 0 (n + m) sz, .mv id nid (.cells false (old ++ new))) else none
        | _ => none
    else none
  | _, _, _, _, _ => none
theorem o1_apG : op1 P own nid get ⟨dst, .call { callee := .builtin .append, args := #[x, y], argTypes := #[t, u] }, ty, pos, after, guard⟩ ρ = apG nid (ρ x) (apd P t u) (content get (ρ x)) (content get (ρ y)) (oneC (content get (ρ x))) (oneC (content get (ρ y))) := by
  rw [o1_apd]
  generalize content get (ρ x) = a
  generalize content get (ρ y) = b
  cases a with
  | none => cases apd P t u <;> rfl
  | some a =>
    obtain ⟨n, old⟩ := a
    cases b with
    | none => cases apd P t u <;> rfl
    | some b =>
      obtain ⟨m, new⟩ := b
      simp only [oneC]
      unfold apF apd
      simp only
      cases hu : P.underlying t with
      | none => rfl
      | some td =>
        cases td with
        | slice e =>
          cases hv : P.underlying u with
          | none => rfl
          | some td2 =>
            cases td2 with
            | slice e2 =>
              simp only
              cases hs : sz? P e with
              | none => rfl
              | some sz => cases hb : (P.info? e).map (·.bytes) with
                | none => rfl
                | some b => cases hz : zero? P e with
                  | none => rfl
                  | some z =>
                    simp only
                    by_cases hc : z.length = sz ∧ 0 < sz
                    · rw [if_pos hc]
                      cases h1 : old.all PV.one with
                      | false => rw [if_neg (fun h => by simp at h)]; rfl
                      | true => cases h2 : new.all PV.one with
                        | false => rw [if_neg (fun h => by simp at h)]; rfl
                        | true =>
                          unfold apG
                          refine ite_iff ?_
                          exact ⟨fun h => ⟨h.2.2.1, h.2.2.2.1, h.2.2.2.2.1, h.2.2.2.2.2.1⟩, fun h => ⟨hc.1, hc.2, h.1, h.2.1, h.2.2.1, h.2.2.2, rfl, rfl⟩⟩
                    · rw [if_neg hc, if_neg (fun h => hc ⟨h.1, h.2.1⟩)]
                      rfl
            | _ => rfl
        | _ => rfl
theorem apg_none {s : PV} {sz by_ : Nat} (h2 : old.length = n * sz) (h3 : n * by_ ≤ 140737488355328) (h4 : n < 4611686018427387904) : apG nid s (some (sz, by_)) (some (n, old)) (some (0, [])) true true = some (s, .none) := by
  unfold apG
  simp only
  rw [if_pos ⟨by simp, h2, by simpa [maxBytes] using h3, by omega⟩]
  rfl
theorem apg_tight {nl : Bool} {k sz by_ : Nat} {cs : List DV} (hm : 0 < m) (h1 : new.length = m * sz) (h2 : old.length = n * sz) (h3 : (n + m) * by_ ≤ 140737488355328) (h4 : n + m < 4611686018427387904) : apG nid (.d (.list nl true k cs)) (some (sz, by_)) (some (n, old)) (some (m, new)) true true = some (.ref nid 0 (n + m) sz, .new nid (.cells false (old ++ new))) := by
  unfold apG
  simp only
  rw [if_pos ⟨h1, h2, h3, by omega⟩, if_neg (by omega)]
theorem apg_ref {id off k sz by_ : Nat} (hm : 0 < m) (h1 : new.length = m * sz) (h2 : old.length = n * sz) (h3 : (n + m) * by_ ≤ 140737488355328) (h4 : n + m < 4611686018427387904) : apG nid (.ref id off k sz) (some (sz, by_)) (some (n, old)) (some (m, new)) true true = some (.ref nid 0 (n + m) sz, .mv id nid (.cells false (old ++ new))) := by
  unfold apG
  simp only
  rw [if_pos ⟨h1, h2, h3, by omega⟩, if_neg (by omega)]
  simp

def fldG (P : Program) : Option (TypeId × Nat × Nat) → PV → Option (PV × Eff)
  | some (u, off, _), .agg cs => (readK (rdk P u) cs off).map fun v => (v, .none)
  | _, _ => none
theorem fldG_agg {u off m : Nat} {cs : List PV} : fldG P (some (u, off, m)) (.agg cs) = (readK (rdk P u) cs off).map fun v => (v, .none) := rfl
theorem o1_fldG {f : Nat} : op1 P own nid get ⟨dst, .field t x f, ty, pos, after, guard⟩ ρ = fldG P (fld P t f) (ρ x) := by
  cases h : fld P t f with
  | some p =>
    obtain ⟨u, off, n⟩ := p
    rw [o1_field h]
    cases ρ x <;> rfl
  | none =>
    show (match P.underlying t with
      | some (.struct fields) => (match fields[f]?, ρ x with
        | some fl, .agg cs => (readAt P fl.type cs fl.offset).map fun v => (v, Eff.none)
        | _, _ => none)
      | _ => none) = none
    unfold fld at h
    split at h
    · rename_i fields hu
      cases hf : fields[f]? with
      | none => simp [hu, hf]
      | some fl =>
        rw [hf] at h
        have h2 : sz? P fl.type = none := by
          cases hs : sz? P fl.type with
          | none => rfl
          | some n => simp [hs] at h
        simp only [hu, hf]
        cases ρ x with
        | agg cs =>
          simp only
          unfold readAt
          rw [h2]
          cases agg? P fl.type with
          | none => rfl
          | some b => cases b <;> rfl
        | _ => rfl
    · rename_i hn
      split
      · rename_i fields hu; exact absurd hu (hn fields)
      · rfl
/-- A struct built of fields. -/
theorem bldG_some {parts : List (Nat × PV)} {zs : List PV} {places : List (Nat × Nat)} : bldG parts (some (zs, places)) = (fill (fun i => places[i]?) zs parts).map fun cs => (.agg cs, .none) := rfl
end

/-- A register of a list that was written. -/
theorem nth_upd {l : List PV} {i j : Nat} {v : PV} : nth (upd l i v) j = if i = j then (if i < l.length then v else nth l j) else nth l j := by
  by_cases h : i = j
  · subst h
    rw [if_pos rfl]
    by_cases hl : i < l.length
    · rw [if_pos hl]; exact nth_same hl
    · rw [if_neg hl]
      unfold nth upd
      rw [List.set_eq_of_length_le (by omega)]
  · rw [if_neg h]; exact nth_ne h

/-! Steps whose rest is hidden from simp. -/
structure Hold (p : Prop) : Prop where
  out : p
section
variable {env : Env} {fid nid0 : Nat} {ops : Array Oper} {l : List Nat} {regs : List PV} {st : St} {Q : List PV → St → Prop} {i : Nat} {o : Oper}
theorem wz_op (ho : ops[i]? = some o) (hg : o.guard = none) (hc : notCall o.op = true)
    (h : ∀ K : List PV → St → Prop, Hold (∀ r s, WS env fid nid0 ops l r s Q → K r s) → stepS K regs st o.dst (op1 env.P (match o.dst with | some d => env.own fid d | none => false) (nid0 + i) st.heap.get o (opd regs))) : WS env fid nid0 ops (i :: l) regs st Q :=
  ws_op ho hg hc fun K hK => h K ⟨hK⟩
theorem wz_guard (ho : ops[i]? = some o) {j : Nat} {want : Bool} (hg : o.guard = some (j, want)) {t : Tmp} (hj : (ops[j]?).bind (·.dst) = some t) (hc : notCall o.op = true)
    (h : ∀ K : List PV → St → Prop, Hold (∀ r s, WS env fid nid0 ops l r s Q → K r s) → guardS want (stepS K regs st o.dst (op1 env.P (match o.dst with | some d => env.own fid d | none => false) (nid0 + i) st.heap.get o (opd regs))) (K (put regs o.dst .gone) st) (nth regs t)) : WS env fid nid0 ops (i :: l) regs st Q :=
  ws_guard2 ho hg hj hc fun K hK => h K ⟨hK⟩
variable {g : Operand} {args : Array Operand} {ts : Array TypeId}
theorem wz_ret (ho : ops[i]? = some o) (hgd : o.guard = none) (hop : o.op = .call { callee := .value g, args := args, argTypes := ts })
    (h : ∀ K : List PV → St → Prop, Hold (∀ r s, WS env fid nid0 ops l r s Q → K r s) → retS env (fun res => K (put regs o.dst res) st) (opd regs g) (args.toList.map (opd regs))) : WS env fid nid0 ops (i :: l) regs st Q :=
  ws_ret_k ho hgd hop fun K hK => h K ⟨hK⟩
theorem wz_retg {t : Tmp} {j : Nat} {want : Bool} (ho : ops[i]? = some o) (hgd : o.guard = some (j, want)) (hj : (ops[j]?).bind (·.dst) = some t) (hop : o.op = .call { callee := .value g, args := args, argTypes := ts })
    (h : ∀ K : List PV → St → Prop, Hold (∀ r s, WS env fid nid0 ops l r s Q → K r s) → guardS want (retS env (fun res => K (put regs o.dst res) st) (opd regs g) (args.toList.map (opd regs))) (K (put regs o.dst .gone) st) (nth regs t)) : WS env fid nid0 ops (i :: l) regs st Q :=
  ws_ret_g ho hgd hj hop fun K hK => h K ⟨hK⟩
theorem wz_heap (ho : ops[i]? = some o) (hgd : o.guard = none) (hop : o.op = .call { callee := .value g, args := args, argTypes := ts })
    (h : ∀ K : List PV → St → Prop, Hold (∀ r s, WS env fid nid0 ops l r s Q → K r s) → heapS env st (fun v s' => K (put regs o.dst v) s') (opd regs g) (args.toList.map (opd regs))) : WS env fid nid0 ops (i :: l) regs st Q :=
  ws_heap_k ho hgd hop fun K hK => h K ⟨hK⟩
theorem wz_yield (ho : ops[i]? = some o) (hgd : o.guard = none) (hop : o.op = .call { callee := .value g, args := args, argTypes := ts })
    (h : ∀ K : List PV → St → Prop, Hold (∀ r s, WS env fid nid0 ops l r s Q → K r s) → yieldS env st (fun v s' => K (put regs o.dst v) s') (opd regs g) (args.toList.map (opd regs))) : WS env fid nid0 ops (i :: l) regs st Q :=
  ws_yield_k ho hgd hop fun K hK => h K ⟨hK⟩
theorem wz_cond {c : Operand} {a b : Code} {r : List PV} {s : St} {Q : Ex → List PV → St → Prop} (h : ∀ A B : Prop, Hold (WX env fid a r s Q → A) → Hold (WX env fid b r s Q → B) → condS A B (opd r c)) : WX env fid (.cond c a b) r s Q :=
  wx_cond_k fun A B hA hB => h A B ⟨hA⟩ ⟨hB⟩
end

/-- A loop that is left one way: T at each round's start, R where it is left. -/
def toQ (T : List PV → St → Nat → Prop) (R : List PV → St → Prop) (d m id : Nat) (Q : Ex → List PV → St → Prop) : Ex → List PV → St → Prop
  | .normal, r, s => ∃ d', d' < d ∧ T r (sweep m s) d'
  | .exit i, r, s => if i = id then R r s else Q (.exit i) r s
  | e, r, s => Q e r s
theorem wx_loop_to {env : Env} {fid : Nat} {c : Code} {r : List PV} {s : St} {Q : Ex → List PV → St → Prop} (id : Nat) (T : List PV → St → Nat → Prop) (R : List PV → St → Prop) (h : ∃ d, T r s d) (round : ∀ d r s, T r s d → WX env fid c r s (toQ T R d s.next id Q)) (rest : ∀ r s, R r s → Q (.exit id) r s) : WX env fid (.loop c) r s Q := by
  obtain ⟨d, h⟩ := h
  refine wx_loop_ind T h fun d r s hT => WX.mono (round d r s hT) ?_
  intro e r' s' h1
  cases e with
  | exit i =>
    by_cases hi : i = id
    · subst hi
      have h2 : (if i = i then R r' s' else Q (.exit i) r' s') := h1
      rw [if_pos rfl] at h2
      exact rest _ _ h2
    · have h2 : (if i = id then R r' s' else Q (.exit i) r' s') := h1
      rw [if_neg hi] at h2
      exact h2
  | _ => exact h1
section
variable {T : List PV → St → Nat → Prop} {R : List PV → St → Prop} {d d' m id : Nat} {Q : Ex → List PV → St → Prop} {r : List PV} {s : St}
theorem toq_normal (h : d' < d) (h2 : T r (sweep m s) d') : toQ T R d m id Q .normal r s := ⟨d', h, h2⟩
theorem toq_exit (h : R r s) : toQ T R d m id Q (.exit id) r s := by
  show (if id = id then _ else _)
  rw [if_pos rfl]; exact h
theorem toq_miss {i : Nat} (hi : i ≠ id) (h : Q (.exit i) r s) : toQ T R d m id Q (.exit i) r s := by
  show (if i = id then _ else _)
  rw [if_neg hi]; exact h
theorem toq_ret (h : Q .ret r s) : toQ T R d m id Q .ret r s := h
end
end Go.Proofs.Ytpepghaknilmhaa.Vm
