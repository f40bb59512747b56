/- The machine of plain values: single steps. Written once for all seats. -/
import Derived.Test.YtpepghaknilmhaaVmT
namespace Go.Proofs.Ytpepghaknilmhaa.Vm
open Go
set_option linter.unusedVariables false
set_option linter.unusedSimpArgs false

/-- A field: its type, where it lies, its size. -/
def fld (P : Program) (s : TypeId) (f : Nat) : Option (TypeId × Nat × Nat) := match P.underlying s with
  | some (.struct fields) => (fields[f]?).bind fun fl => (sz? P fl.type).map fun n => (fl.type, fl.offset, n)
  | _ => none
/-- An element's size; an array's length. -/
def elt (P : Program) (t : TypeId) : Option (Option Nat × Nat) := match P.underlying t with
  | some (.array len elem) => (sz? P elem).map fun s => (some len, s)
  | some (.slice elem) => (sz? P elem).map fun s => (none, s)
  | _ => none
/-- How a type is read: whole, or one cell. -/
def rdk (P : Program) (t : TypeId) : Option (Bool × Nat) := match agg? P t, sz? P t with
  | some b, some n => some (b, n)
  | _, _ => none
def readK (k : Option (Bool × Nat)) (cs : List PV) (off : Nat) : Option PV := match k with
  | some (true, n) => if off + n ≤ cs.length then some (.agg ((cs.drop off).take n)) else none
  | some (false, _) => cs[off]?
  | none => none
theorem readAt_eq {P : Program} {t : TypeId} {cs : List PV} {off : Nat} : readAt P t cs off = readK (rdk P t) cs off := by
  unfold readAt readK rdk
  cases agg? P t with
  | none => rfl
  | some b => cases sz? P t with
    | none => cases b <;> rfl
    | some n => cases b <;> rfl

section
variable {P : Program} {own : Bool} {nid : Nat} {get : Nat → Option Obj} {ρ : Operand → PV} {dst : Option Tmp} {ty : TypeId} {pos : String} {after : Array Edge} {guard : Option (Nat × Bool)}
theorem o1_move {x : Operand} : op1 P own nid get ⟨dst, .move x, ty, pos, after, guard⟩ ρ = some (ρ x, .none) := rfl
theorem o1_assign {x : Operand} : op1 P own nid get ⟨dst, .assign x, ty, pos, after, guard⟩ ρ = some (ρ x, .none) := rfl
theorem o1_pick {c a b : Operand} : op1 P own nid get ⟨dst, .pick c a b, ty, pos, after, guard⟩ ρ = match ρ c with
    | .d (.bool t) => some (if t then ρ a else ρ b, .none)
    | _ => none := rfl
theorem o1_alloc {t : TypeId} : op1 P own nid get ⟨dst, .alloc t, ty, pos, after, guard⟩ ρ = (zero? P t).map fun cs => (.ptr nid 0, .new nid (.cells true cs)) := rfl
theorem o1_box {t : TypeId} {x : Operand} : op1 P own nid get ⟨dst, .box t x, ty, pos, after, guard⟩ ρ = (ρ x).cells?.map fun cs => (.ptr nid 0, .new nid (.cells true cs)) := rfl
theorem o1_load {t : TypeId} {a : Operand} : op1 P own nid get ⟨dst, .load t a, ty, pos, after, guard⟩ ρ = match ρ a with
    | .ptr id off => (match get id with
      | some (.cells _ cs) => (readK (rdk P t) cs off).map fun v => (v, .none)
      | _ => none)
    | .rd cells => (readK (rdk P t) (cells.map .d) 0).map fun v => (v, .none)
    | _ => none := by
  show (match ρ a with
    | .ptr id off => (match get id with
      | some (.cells _ cs) => (readAt P t cs off).map fun v => (v, Eff.none)
      | _ => none)
    | .rd cells => (readAt P t (cells.map .d) 0).map fun v => (v, Eff.none)
    | _ => none) = _
  simp only [readAt_eq]
theorem o1_store {t : TypeId} {a x : Operand} : op1 P own nid get ⟨dst, .store t a x, ty, pos, after, guard⟩ ρ = match ρ a, (ρ x).cells?, sz? P t with
    | .ptr id off, some xs, some n => (match get id with
      | some (.cells _ cs) => if xs.length = n ∧ off + n ≤ cs.length then some (.undef, .wr id off xs) else none
      | _ => none)
    | _, _, _ => none := rfl
theorem o1_fieldAddr {s : TypeId} {x : Operand} {f : Nat} : op1 P own nid get ⟨dst, .fieldAddr s x f, ty, pos, after, guard⟩ ρ = match fld P s f with
    | some (_, off, n) => if n = 0 then none else match ρ x with
      | .ptr id o => some (.ptr id (o + off), .none)
      | .rd cells => some (.rd (cells.drop off), .none)
      | _ => none
    | none => none := by
  show (match P.underlying s with
    | some (.struct fields) => (match fields[f]? with
      | some fl => (match sz? P fl.type with
        | some n => if n = 0 then none else match ρ x with
          | .ptr id off => some (PV.ptr id (off + fl.offset), Eff.none)
          | .rd cells => some (PV.rd (cells.drop fl.offset), Eff.none)
          | _ => none
        | none => none)
      | none => none)
    | _ => none) = _
  unfold fld
  split
  · rename_i fields hu
    cases hf : fields[f]? with
    | none => rfl
    | some fl => cases hs : sz? P fl.type with
      | none => simp [hs]
      | some n => simp [hs]
  · rfl
theorem o1_field {t : TypeId} {x : Operand} {f : Nat} {u : TypeId} {off n : Nat} (h : fld P t f = some (u, off, n)) : op1 P own nid get ⟨dst, .field t x f, ty, pos, after, guard⟩ ρ = match ρ x with
    | .agg cs => (readK (rdk P u) cs off).map fun v => (v, .none)
    | _ => none := by
  show (match P.underlying t with
    | some (.struct fields) => (match fields[f]?, ρ x with
      | some fl, .agg cs => (readAt P fl.type cs fl.offset).map fun v => (v, Eff.none)
      | _, _ => none)
    | _ => none) = _
  unfold fld at h
  split at h
  · rename_i fields hu
    obtain ⟨fl, h1, h2⟩ := Option.bind_eq_some_iff.1 h
    obtain ⟨m, h3, h4⟩ := Option.map_eq_some_iff.1 h2
    simp only [Prod.mk.injEq] at h4
    obtain ⟨rfl, rfl, rfl⟩ := h4
    simp only [h1, readAt_eq]
    cases ρ x <;> rfl
  · cases h
theorem o1_extract {x : Operand} {i : Nat} : op1 P own nid get ⟨dst, .extract x i, ty, pos, after, guard⟩ ρ = match ρ x with
    | .tuple vs => (vs[i]?).map fun v => (v, .none)
    | _ => none := rfl
theorem o1_makeFunc {f : FuncId} {cap : Array Operand} : op1 P own nid get ⟨dst, .makeFunc (.func f) #[] cap, ty, pos, after, guard⟩ ρ = some (.func f (cap.toList.map ρ), .none) := rfl
/-- An element of data. -/
theorem o1_index_data {t : TypeId} {x i : Operand} {k : IntKind} {z : Int} {nl tight : Bool} {n sz : Nat} {cells : List DV} (he : elt P t = some (none, sz)) (hx : ρ x = .d (.list nl tight n cells)) (hi : ρ i = .d (.int k z)) (h0 : 0 ≤ z) (h1 : z < n) (hc : 0 < cells.length) :
    op1 P own nid get ⟨dst, .indexAddr t x i, ty, pos, after, guard⟩ ρ = some (.rd (cells.drop (z.toNat * sz)), .none) := by
  unfold elt at he
  unfold op1
  simp only [hi]
  split at he
  · rename_i len el hu; obtain ⟨m, _, h⟩ := Option.map_eq_some_iff.1 he; simp at h
  · rename_i el hu
    obtain ⟨m, h2, h3⟩ := Option.map_eq_some_iff.1 he
    simp only [Prod.mk.injEq] at h3
    obtain ⟨_, rfl⟩ := h3
    simp only [hu, h2, hx]
    rw [if_pos ⟨h0, h1, hc⟩]
  · cases he
/-- An element of a row of the machine's own. -/
theorem o1_index_ref {t : TypeId} {x i : Operand} {k : IntKind} {z : Int} {id off n sz : Nat} (he : elt P t = some (none, sz)) (hx : ρ x = .ref id off n sz) (hi : ρ i = .d (.int k z)) (h0 : 0 ≤ z) (h1 : z < n) :
    op1 P own nid get ⟨dst, .indexAddr t x i, ty, pos, after, guard⟩ ρ = some (.ptr id (off + z.toNat * sz), .none) := by
  unfold elt at he
  unfold op1
  simp only [hi]
  split at he
  · rename_i len el hu; obtain ⟨m, _, h⟩ := Option.map_eq_some_iff.1 he; simp at h
  · rename_i el hu
    obtain ⟨m, h2, h3⟩ := Option.map_eq_some_iff.1 he
    simp only [Prod.mk.injEq] at h3
    obtain ⟨_, rfl⟩ := h3
    simp only [hu, h2, hx]
    rw [if_pos ⟨h0, h1, trivial⟩]
  · cases he
theorem o1_len_data {ts : Array TypeId} {x : Operand} {nl tight : Bool} {n sz : Nat} {cells : List DV} {t : TypeId} (ht : ts[0]? = some t) (he : elt P t = some (none, sz)) (hx : ρ x = .d (.list nl tight n cells)) : op1 P own nid get ⟨dst, .call { callee := .builtin .len, args := #[x], argTypes := ts }, ty, pos, after, guard⟩ ρ = some (.d (.int .i64 n), .none) := by
  unfold elt at he
  unfold op1
  simp only [ht, Option.bind_some]
  split at he
  · rename_i len el hu; obtain ⟨m, _, h⟩ := Option.map_eq_some_iff.1 he; simp at h
  · rename_i el hu
    simp [hu, hx]
  · cases he
theorem o1_len_ref {ts : Array TypeId} {x : Operand} {id off n sz s : Nat} {t : TypeId} (ht : ts[0]? = some t) (he : elt P t = some (none, sz)) (hx : ρ x = .ref id off n s) : op1 P own nid get ⟨dst, .call { callee := .builtin .len, args := #[x], argTypes := ts }, ty, pos, after, guard⟩ ρ = some (.d (.int .i64 n), .none) := by
  unfold elt at he
  unfold op1
  simp only [ht, Option.bind_some]
  split at he
  · rename_i len el hu; obtain ⟨m, _, h⟩ := Option.map_eq_some_iff.1 he; simp at h
  · rename_i el hu
    simp [hu, hx]
  · cases he

/-! ### Numbers, strings -/
theorem calm_bind {α β : Type} {P : Program} : ∀ (e : Sem α) (f : α → Sem β), calm P (e >>= f) = (calm P e).bind fun a => calm P (f a)
  | .pure a, f => rfl
  | .program k, f => calm_bind (k P) f
  | .mark m k, f => calm_bind k f
  | .load .., _ => rfl
  | .store .., _ => rfl
  | .new .., _ => rfl
  | .shape .., _ => rfl
  | .freeze .., _ => rfl
  | .frozen .., _ => rfl
  | .getObj .., _ => rfl
  | .setObj .., _ => rfl
  | .choose .., _ => rfl
  | .sys .., _ => rfl
  | .halt .., _ => rfl
theorem sc_bin {op : BinOp} {t t' : TypeId} {x y : Operand} {u v r : Value} {p : PV} (hx : (ρ x).toV = some u) (hy : (ρ y).toV = some v) (hc : calm P (execOp (fun z => ((ρ z).toV).getD undef) ⟨dst, .binOp op t x y t', ty, pos, after, guard⟩) = some (.value r)) (hp : ofConst r = p) (hn : p ≠ .undef) (hne : nilEq P op t (ρ x) (ρ y) = none) :
    op1 P own nid get ⟨dst, .binOp op t x y t', ty, pos, after, guard⟩ ρ = some (p, .none) := by
  show (match nilEq P op t (ρ x) (ρ y) with
    | some b => some (PV.d (.bool b), Eff.none)
    | none => op1.scalar P _ ρ) = _
  rw [hne]
  show op1.scalar P _ ρ = _
  unfold op1.scalar
  have : (#[x, y].toList.mapM fun z => (ρ z).toV) = some [u, v] := by simp [hx, hy]
  simp only [Op.operands, this, hc, hp]
end

section
variable {P : Program} {own : Bool} {nid : Nat} {get : Nat → Option Obj} {ρ : Operand → PV} {dst : Option Tmp} {ty : TypeId} {pos : String} {after : Array Edge} {guard : Option (Nat × Bool)} {t t' : TypeId} {x y : Operand} {k : IntKind} {a b : Int} {p q : ByteArray} {op : BinOp}
theorem b_add (hx : ρ x = .d (.int k a)) (hy : ρ y = .d (.int k b)) : op1 P own nid get ⟨dst, .binOp .add t x y t', ty, pos, after, guard⟩ ρ = some (.d (.int k (k.wrap (a + b))), .none) :=
  sc_bin (u := .int k a) (v := .int k b) (by rw [hx]; rfl) (by rw [hy]; rfl) (r := .int k (k.wrap (a + b))) (by simp only [execOp, hx, hy]; simp [PV.toV, PV.toV1, eqGuard, binOp, Op.intArith, calm]; rfl) rfl (by simp) (by rw [hx]; rfl)
theorem b_sub (hx : ρ x = .d (.int k a)) (hy : ρ y = .d (.int k b)) : op1 P own nid get ⟨dst, .binOp .sub t x y t', ty, pos, after, guard⟩ ρ = some (.d (.int k (k.wrap (a - b))), .none) :=
  sc_bin (u := .int k a) (v := .int k b) (by rw [hx]; rfl) (by rw [hy]; rfl) (r := .int k (k.wrap (a - b))) (by simp only [execOp, hx, hy]; simp [PV.toV, PV.toV1, eqGuard, binOp, Op.intArith, calm]; rfl) rfl (by simp) (by rw [hx]; rfl)
theorem b_mul (hx : ρ x = .d (.int k a)) (hy : ρ y = .d (.int k b)) : op1 P own nid get ⟨dst, .binOp .mul t x y t', ty, pos, after, guard⟩ ρ = some (.d (.int k (k.wrap (a * b))), .none) :=
  sc_bin (u := .int k a) (v := .int k b) (by rw [hx]; rfl) (by rw [hy]; rfl) (r := .int k (k.wrap (a * b))) (by simp only [execOp, hx, hy]; simp [PV.toV, PV.toV1, eqGuard, binOp, Op.intArith, calm]; rfl) rfl (by simp) (by rw [hx]; rfl)
theorem b_eql (hx : ρ x = .d (.int k a)) (hy : ρ y = .d (.int k b)) : op1 P own nid get ⟨dst, .binOp .eql t x y t', ty, pos, after, guard⟩ ρ = some (.d (.bool (decide (a = b))), .none) :=
  sc_bin (u := .int k a) (v := .int k b) (by rw [hx]; rfl) (by rw [hy]; rfl) (r := .bool (decide (a = b))) (by simp only [execOp, hx, hy]; simp [PV.toV, PV.toV1, eqGuard, binOp, Op.intCmp, calm]; rfl) rfl (by simp) (by rw [hx]; rfl)
theorem b_neq (hx : ρ x = .d (.int k a)) (hy : ρ y = .d (.int k b)) : op1 P own nid get ⟨dst, .binOp .neq t x y t', ty, pos, after, guard⟩ ρ = some (.d (.bool (!decide (a = b))), .none) :=
  sc_bin (u := .int k a) (v := .int k b) (by rw [hx]; rfl) (by rw [hy]; rfl) (r := .bool (!decide (a = b))) (by simp only [execOp, hx, hy]; simp [PV.toV, PV.toV1, eqGuard, binOp, Op.intCmp, calm]; rfl) rfl (by simp) (by rw [hx]; rfl)
theorem b_lss (hx : ρ x = .d (.int k a)) (hy : ρ y = .d (.int k b)) : op1 P own nid get ⟨dst, .binOp .lss t x y t', ty, pos, after, guard⟩ ρ = some (.d (.bool (decide (a < b))), .none) :=
  sc_bin (u := .int k a) (v := .int k b) (by rw [hx]; rfl) (by rw [hy]; rfl) (r := .bool (decide (a < b))) (by simp only [execOp, hx, hy]; simp [PV.toV, PV.toV1, eqGuard, binOp, Op.intCmp, calm]; rfl) rfl (by simp) (by rw [hx]; rfl)
theorem b_leq (hx : ρ x = .d (.int k a)) (hy : ρ y = .d (.int k b)) : op1 P own nid get ⟨dst, .binOp .leq t x y t', ty, pos, after, guard⟩ ρ = some (.d (.bool (decide (a ≤ b))), .none) :=
  sc_bin (u := .int k a) (v := .int k b) (by rw [hx]; rfl) (by rw [hy]; rfl) (r := .bool (decide (a ≤ b))) (by simp only [execOp, hx, hy]; simp [PV.toV, PV.toV1, eqGuard, binOp, Op.intCmp, calm]; rfl) rfl (by simp) (by rw [hx]; rfl)
theorem b_gtr (hx : ρ x = .d (.int k a)) (hy : ρ y = .d (.int k b)) : op1 P own nid get ⟨dst, .binOp .gtr t x y t', ty, pos, after, guard⟩ ρ = some (.d (.bool (decide (b < a))), .none) :=
  sc_bin (u := .int k a) (v := .int k b) (by rw [hx]; rfl) (by rw [hy]; rfl) (r := .bool (decide (b < a))) (by simp only [execOp, hx, hy]; simp [PV.toV, PV.toV1, eqGuard, binOp, Op.intCmp, calm]; rfl) rfl (by simp) (by rw [hx]; rfl)
theorem b_geq (hx : ρ x = .d (.int k a)) (hy : ρ y = .d (.int k b)) : op1 P own nid get ⟨dst, .binOp .geq t x y t', ty, pos, after, guard⟩ ρ = some (.d (.bool (decide (b ≤ a))), .none) :=
  sc_bin (u := .int k a) (v := .int k b) (by rw [hx]; rfl) (by rw [hy]; rfl) (r := .bool (decide (b ≤ a))) (by simp only [execOp, hx, hy]; simp [PV.toV, PV.toV1, eqGuard, binOp, Op.intCmp, calm]; rfl) rfl (by simp) (by rw [hx]; rfl)
theorem b_quo (hx : ρ x = .d (.int k a)) (hy : ρ y = .d (.int k b)) (hb : b ≠ 0) : op1 P own nid get ⟨dst, .binOp .quo t x y t', ty, pos, after, guard⟩ ρ = some (.d (.int k (k.wrap (a.tdiv b))), .none) :=
  sc_bin (u := .int k a) (v := .int k b) (by rw [hx]; rfl) (by rw [hy]; rfl) (r := .int k (k.wrap (a.tdiv b))) (by simp only [execOp, hx, hy]; simp [PV.toV, PV.toV1, eqGuard, binOp, Op.intDiv, calm, hb]; rfl) rfl (by simp) (by rw [hx]; rfl)
theorem b_rem (hx : ρ x = .d (.int k a)) (hy : ρ y = .d (.int k b)) (hb : b ≠ 0) : op1 P own nid get ⟨dst, .binOp .rem t x y t', ty, pos, after, guard⟩ ρ = some (.d (.int k (a.tmod b)), .none) :=
  sc_bin (u := .int k a) (v := .int k b) (by rw [hx]; rfl) (by rw [hy]; rfl) (r := .int k (a.tmod b)) (by simp only [execOp, hx, hy]; simp [PV.toV, PV.toV1, eqGuard, binOp, Op.intDiv, calm, hb]; rfl) rfl (by simp) (by rw [hx]; rfl)
theorem calm_under {t : TypeId} {td : TypeDesc} (hu : P.underlying t = some td) : calm P (underlying t) = some td := by
  unfold underlying
  simp only [calm_bind]
  simp [program, calm, hu]
  rfl
theorem calm_beq {t : TypeId} {p q : Bool} (hu : P.underlying t = some .bool) : calm P (Op.equal t (.bool p) (.bool q)) = some (p == q) := by
  unfold Op.equal Op.maxDepth
  rw [show (10000 : Nat) = 9999 + 1 from rfl]
  unfold Op.equalIn
  simp only [calm_bind, calm_under hu, Option.bind_some]
  rfl
theorem calm_map {α β : Type} {P : Program} (f : α → β) (e : Sem α) : calm P (f <$> e) = (calm P e).map f := by
  rw [map_eq_pure_bind, calm_bind]
  cases calm P e <;> rfl
theorem l_eql {p q : Bool} (hu : P.underlying t = some .bool) (hx : ρ x = .d (.bool p)) (hy : ρ y = .d (.bool q)) : op1 P own nid get ⟨dst, .binOp .eql t x y t', ty, pos, after, guard⟩ ρ = some (.d (.bool (p == q)), .none) :=
  sc_bin (u := .bool p) (v := .bool q) (by rw [hx]; rfl) (by rw [hy]; rfl) (r := .bool (p == q)) (by simp only [execOp, hx, hy]; simp [PV.toV, PV.toV1, eqGuard, binOp, calm_map, calm_bind, calm_beq hu]) rfl (by simp) (by rw [hx]; rfl)
theorem l_neq {p q : Bool} (hu : P.underlying t = some .bool) (hx : ρ x = .d (.bool p)) (hy : ρ y = .d (.bool q)) : op1 P own nid get ⟨dst, .binOp .neq t x y t', ty, pos, after, guard⟩ ρ = some (.d (.bool (!(p == q))), .none) :=
  sc_bin (u := .bool p) (v := .bool q) (by rw [hx]; rfl) (by rw [hy]; rfl) (r := .bool (!(p == q))) (by simp only [execOp, hx, hy]; simp [PV.toV, PV.toV1, eqGuard, binOp, calm_map, calm_bind, calm_beq hu]) rfl (by simp) (by rw [hx]; rfl)
theorem s_eql (hx : ρ x = .d (.str p)) (hy : ρ y = .d (.str q)) : op1 P own nid get ⟨dst, .binOp .eql t x y t', ty, pos, after, guard⟩ ρ = some (.d (.bool (p.toList == q.toList)), .none) :=
  sc_bin (u := .string p) (v := .string q) (by rw [hx]; rfl) (by rw [hy]; rfl) (r := .bool (p.toList == q.toList)) (by simp only [execOp, hx, hy]; simp [PV.toV, PV.toV1, eqGuard, binOp, Op.stringOp, calm]; rfl) rfl (by simp) (by rw [hx]; rfl)
theorem s_neq (hx : ρ x = .d (.str p)) (hy : ρ y = .d (.str q)) : op1 P own nid get ⟨dst, .binOp .neq t x y t', ty, pos, after, guard⟩ ρ = some (.d (.bool (!(p.toList == q.toList))), .none) :=
  sc_bin (u := .string p) (v := .string q) (by rw [hx]; rfl) (by rw [hy]; rfl) (r := .bool (!(p.toList == q.toList))) (by simp only [execOp, hx, hy]; simp [PV.toV, PV.toV1, eqGuard, binOp, Op.stringOp, calm]; rfl) rfl (by simp) (by rw [hx]; rfl)
theorem s_add (hx : ρ x = .d (.str p)) (hy : ρ y = .d (.str q)) (hs : p.size + q.size < 2 ^ 62) : op1 P own nid get ⟨dst, .binOp .add t x y t', ty, pos, after, guard⟩ ρ = some (.d (.str (p ++ q)), .none) :=
  sc_bin (u := .string p) (v := .string q) (by rw [hx]; rfl) (by rw [hy]; rfl) (r := .string (p ++ q)) (by
    have h1 : ¬ (((p.size + q.size : Nat) : Int) > IntKind.i64.max) := by rw [show IntKind.i64.max = (9223372036854775807 : Int) from rfl]; omega
    simp only [execOp, hx, hy]
    simp only [PV.toV, PV.toV1, Option.getD_some, eqGuard, binOp, Op.stringOp, if_neg h1]
    rfl) rfl (by simp) (by rw [hx]; rfl)
theorem n_eq (b : Bool) (h : nilEq P op t (ρ x) (ρ y) = some b) : op1 P own nid get ⟨dst, .binOp op t x y t', ty, pos, after, guard⟩ ρ = some (.d (.bool b), .none) := by
  show (match nilEq P op t (ρ x) (ρ y) with
    | some b => some (PV.d (.bool b), Eff.none)
    | none => op1.scalar P _ ρ) = _
  rw [h]
theorem n_eql_data {nl tight : Bool} {n sz : Nat} {cells : List DV} (he : elt P t = some (none, sz)) (hx : ρ x = .d (.list nl tight n cells)) (hy : ρ y = .d (.list true true 0 [])) : op1 P own nid get ⟨dst, .binOp .eql t x y t', ty, pos, after, guard⟩ ρ = some (.d (.bool nl), .none) := by
  refine n_eq nl ?_
  unfold elt at he
  split at he
  · rename_i len el hu; obtain ⟨m, _, h⟩ := Option.map_eq_some_iff.1 he; simp at h
  · rename_i el hu; rw [hx, hy]; simp [nilEq, hu]
  · cases he
theorem u_not {c : Bool} (hx : ρ x = .d (.bool c)) : op1 P own nid get ⟨dst, .unOp .not t x, ty, pos, after, guard⟩ ρ = some (.d (.bool (!c)), .none) := by
  show op1.scalar P _ ρ = _
  unfold op1.scalar
  have : (#[x].toList.mapM fun z => (ρ z).toV) = some [.bool c] := by simp [hx]; rfl
  simp only [Op.operands, this]
  have h2 : calm P (execOp (fun z => ((ρ z).toV).getD undef) ⟨dst, .unOp .not t x, ty, pos, after, guard⟩) = some (.value (.bool (!c))) := by
    simp only [execOp, hx]
    simp [PV.toV, PV.toV1, Op.unary, calm]
    rfl
  rw [h2]
  rfl
theorem s_len {ts : Array TypeId} {u : TypeId} (ht : ts[0]? = some u) (hu : P.underlying u = some .string) (hx : ρ x = .d (.str p)) : op1 P own nid get ⟨dst, .call { callee := .builtin .len, args := #[x], argTypes := ts }, ty, pos, after, guard⟩ ρ = some (.d (.int .i64 p.size), .none) := by
  have h0 : op1 P own nid get ⟨dst, .call { callee := .builtin .len, args := #[x], argTypes := ts }, ty, pos, after, guard⟩ ρ = op1.scalar P ⟨dst, .call { callee := .builtin .len, args := #[x], argTypes := ts }, ty, pos, after, guard⟩ ρ := by
    unfold op1
    simp [ht, hu]
  rw [h0]
  unfold op1.scalar
  have : ((Op.call { callee := .builtin .len, args := #[x], argTypes := ts }).operands.toList.mapM fun z => (ρ z).toV) = some [.string p] := by simp [Op.operands, Call.operands, hx]; rfl
  simp only [this]
  have h2 : calm P (execOp (fun z => ((ρ z).toV).getD undef) ⟨dst, .call { callee := .builtin .len, args := #[x], argTypes := ts }, ty, pos, after, guard⟩) = some (.value (.int .i64 p.size)) := by
    have h3 : calm P (underlying u) = some TypeDesc.string := by
      unfold underlying
      simp only [calm_bind]
      simp [program, calm, hu]
      rfl
    simp only [execOp, resolve, invoke, builtin, pure_bind, Builtin.len_, ht]
    simp [hx, PV.toV, PV.toV1, calm_bind, h3]
    rfl
  rw [h2]
  rfl
end

/-! Operations as functions of their operands: what is none here is left as it is. -/
def op1b := @op1
/-- A slice's type; its elements' size. -/
def isSl (P : Program) (t : TypeId) : Bool := match elt P t with | some (none, _) => true | _ => false
def esz (P : Program) (t : TypeId) : Nat := match elt P t with | some (_, n) => n | none => 0
def isStr (P : Program) (t : TypeId) : Bool := match P.underlying t with | some .string => true | _ => false
def isBool (P : Program) (t : TypeId) : Bool := match P.underlying t with | some .bool => true | _ => false
def binI (P : Program) (t : TypeId) : BinOp → PV → PV → Option PV
  | .eql, .d (.list nl _ _ _), .d (.list true true 0 []) => if isSl P t = true then some (.d (.bool nl)) else none
  | .neq, .d (.list nl _ _ _), .d (.list true true 0 []) => if isSl P t = true then some (.d (.bool (!nl))) else none
  | .eql, .ref _ _ _ _, .d (.list true true 0 []) => if isSl P t = true then some (.d (.bool false)) else none
  | .neq, .ref _ _ _ _, .d (.list true true 0 []) => if isSl P t = true then some (.d (.bool true)) else none
  | .add, .d (.int k a), .d (.int k' b) => if k = k' then some (.d (.int k (k.wrap (a + b)))) else none
  | .sub, .d (.int k a), .d (.int k' b) => if k = k' then some (.d (.int k (k.wrap (a - b)))) else none
  | .mul, .d (.int k a), .d (.int k' b) => if k = k' then some (.d (.int k (k.wrap (a * b)))) else none
  | .quo, .d (.int k a), .d (.int k' b) => if k = k' ∧ b ≠ 0 then some (.d (.int k (k.wrap (a.tdiv b)))) else none
  | .rem, .d (.int k a), .d (.int k' b) => if k = k' ∧ b ≠ 0 then some (.d (.int k (a.tmod b))) else none
  | .eql, .d (.int k a), .d (.int k' b) => if k = k' then some (.d (.bool (decide (a = b)))) else none
  | .neq, .d (.int k a), .d (.int k' b) => if k = k' then some (.d (.bool (!decide (a = b)))) else none
  | .lss, .d (.int k a), .d (.int k' b) => if k = k' then some (.d (.bool (decide (a < b)))) else none
  | .leq, .d (.int k a), .d (.int k' b) => if k = k' then some (.d (.bool (decide (a ≤ b)))) else none
  | .gtr, .d (.int k a), .d (.int k' b) => if k = k' then some (.d (.bool (decide (b < a)))) else none
  | .geq, .d (.int k a), .d (.int k' b) => if k = k' then some (.d (.bool (decide (b ≤ a)))) else none
  | .eql, .d (.bool p), .d (.bool q) => if isBool P t = true then some (.d (.bool (p == q))) else none
  | .neq, .d (.bool p), .d (.bool q) => if isBool P t = true then some (.d (.bool (!(p == q)))) else none
  | .eql, .d (.str p), .d (.str q) => some (.d (.bool (p.toList == q.toList)))
  | .neq, .d (.str p), .d (.str q) => some (.d (.bool (!(p.toList == q.toList))))
  | .add, .d (.str p), .d (.str q) => if p.size + q.size < 2 ^ 62 then some (.d (.str (p ++ q))) else none
  | _, _, _ => none
section
variable {P : Program} {own : Bool} {nid : Nat} {get : Nat → Option Obj} {ρ : Operand → PV} {dst : Option Tmp} {ty : TypeId} {pos : String} {after : Array Edge} {guard : Option (Nat × Bool)} {t t' : TypeId} {x y : Operand}
theorem isSl_under (h : isSl P t = true) : ∃ e, P.underlying t = some (.slice e) := by
  unfold isSl elt at h
  split at h
  · rename_i n he
    split at he
    · obtain ⟨m, _, h3⟩ := Option.map_eq_some_iff.1 he; simp at h3
    · rename_i el hu; exact ⟨el, hu⟩
    · cases he
  · cases h
theorem isBool_spec (h : isBool P t = true) : P.underlying t = some .bool := by
  unfold isBool at h
  split at h
  · rename_i he; exact he
  · cases h
theorem binI_spec {op : BinOp} {v : PV} (h : binI P t op (ρ x) (ρ y) = some v) : op1 P own nid get ⟨dst, .binOp op t x y t', ty, pos, after, guard⟩ ρ = some (v, .none) := by
  generalize hp : ρ x = p at h
  generalize hq : ρ y = q at h
  unfold binI at h
  split at h <;> first
    | (cases h; done)
    | (split at h
       · rename_i hk
         first
           | (cases h; exact n_eq _ (by rw [hp, hq]; obtain ⟨e, he⟩ := isSl_under hk; simp [nilEq, he]))
           | (subst hk; cases h; first | exact b_add hp hq | exact b_sub hp hq | exact b_mul hp hq | exact b_eql hp hq | exact b_neq hp hq | exact b_lss hp hq | exact b_leq hp hq | exact b_gtr hp hq | exact b_geq hp hq)
           | (obtain ⟨rfl, h0⟩ := hk; cases h; first | exact b_quo hp hq h0 | exact b_rem hp hq h0)
           | (cases h; exact s_add hp hq hk)
           | (cases h; first | exact l_eql (isBool_spec hk) hp hq | exact l_neq (isBool_spec hk) hp hq)
       · cases h)
    | (cases h; first | exact s_eql hp hq | exact s_neq hp hq)
theorem o1_bin {op : BinOp} : op1 P own nid get ⟨dst, .binOp op t x y t', ty, pos, after, guard⟩ ρ = match binI P t op (ρ x) (ρ y) with
    | some v => some (v, .none)
    | none => op1b P own nid get ⟨dst, .binOp op t x y t', ty, pos, after, guard⟩ ρ := by
  cases h : binI P t op (ρ x) (ρ y) with
  | none => rfl
  | some v => exact binI_spec h
theorem bi_nil {nl tt : Bool} {n : Nat} {cs : List DV} (h : isSl P t = true) : binI P t .eql (.d (.list nl tt n cs)) (.d (.list true true 0 [])) = some (.d (.bool nl)) := by simp [binI, h]
theorem bi_add {k : IntKind} {a b : Int} : binI P t .add (.d (.int k a)) (.d (.int k b)) = some (.d (.int k (k.wrap (a + b)))) := by simp [binI]
theorem bi_sub {k : IntKind} {a b : Int} : binI P t .sub (.d (.int k a)) (.d (.int k b)) = some (.d (.int k (k.wrap (a - b)))) := by simp [binI]
theorem bi_mul {k : IntKind} {a b : Int} : binI P t .mul (.d (.int k a)) (.d (.int k b)) = some (.d (.int k (k.wrap (a * b)))) := by simp [binI]
theorem bi_quo {k : IntKind} {a b : Int} (h : b ≠ 0) : binI P t .quo (.d (.int k a)) (.d (.int k b)) = some (.d (.int k (k.wrap (a.tdiv b)))) := by simp [binI, h]
theorem bi_rem {k : IntKind} {a b : Int} (h : b ≠ 0) : binI P t .rem (.d (.int k a)) (.d (.int k b)) = some (.d (.int k (a.tmod b))) := by simp [binI, h]
theorem bi_eql {k : IntKind} {a b : Int} : binI P t .eql (.d (.int k a)) (.d (.int k b)) = some (.d (.bool (decide (a = b)))) := by simp [binI]
theorem bi_neq {k : IntKind} {a b : Int} : binI P t .neq (.d (.int k a)) (.d (.int k b)) = some (.d (.bool (!decide (a = b)))) := by simp [binI]
theorem bi_lss {k : IntKind} {a b : Int} : binI P t .lss (.d (.int k a)) (.d (.int k b)) = some (.d (.bool (decide (a < b)))) := by simp [binI]
theorem bi_leq {k : IntKind} {a b : Int} : binI P t .leq (.d (.int k a)) (.d (.int k b)) = some (.d (.bool (decide (a ≤ b)))) := by simp [binI]
theorem bi_gtr {k : IntKind} {a b : Int} : binI P t .gtr (.d (.int k a)) (.d (.int k b)) = some (.d (.bool (decide (b < a)))) := by simp [binI]
theorem bi_geq {k : IntKind} {a b : Int} : binI P t .geq (.d (.int k a)) (.d (.int k b)) = some (.d (.bool (decide (b ≤ a)))) := by simp [binI]
theorem bi_leql {p q : Bool} : binI P t .eql (.d (.bool p)) (.d (.bool q)) = if isBool P t = true then some (.d (.bool (p == q))) else none := rfl
theorem bi_lneq {p q : Bool} : binI P t .neq (.d (.bool p)) (.d (.bool q)) = if isBool P t = true then some (.d (.bool (!(p == q)))) else none := rfl
theorem bi_seql {p q : ByteArray} : binI P t .eql (.d (.str p)) (.d (.str q)) = some (.d (.bool (p.toList == q.toList))) := rfl
theorem bi_sneq {p q : ByteArray} : binI P t .neq (.d (.str p)) (.d (.str q)) = some (.d (.bool (!(p.toList == q.toList)))) := rfl
theorem bi_sadd {p q : ByteArray} (h : p.size + q.size < 2 ^ 62) : binI P t .add (.d (.str p)) (.d (.str q)) = some (.d (.str (p ++ q))) := by simp only [binI]; rw [if_pos h]
theorem isSl_spec (h : isSl P t = true) : elt P t = some (none, esz P t) := by
  unfold isSl at h
  unfold esz
  split at h
  · rename_i n he; rw [he]
  · cases h
theorem isStr_spec (h : isStr P t = true) : P.underlying t = some .string := by
  unfold isStr at h
  split at h
  · rename_i he; exact he
  · cases h
theorem o1_index : op1 P own nid get ⟨dst, .indexAddr t x y, ty, pos, after, guard⟩ ρ = match ρ x, ρ y with
    | .d (.list nl tight n cells), .d (.int k z) => if isSl P t = true ∧ 0 ≤ z ∧ z < n ∧ 0 < cells.length then some (.rd (cells.drop (z.toNat * esz P t)), .none) else op1b P own nid get ⟨dst, .indexAddr t x y, ty, pos, after, guard⟩ ρ
    | .ref id off n sz, .d (.int k z) => if isSl P t = true ∧ 0 ≤ z ∧ z < n ∧ esz P t = sz then some (.ptr id (off + z.toNat * sz), .none) else op1b P own nid get ⟨dst, .indexAddr t x y, ty, pos, after, guard⟩ ρ
    | _, _ => op1b P own nid get ⟨dst, .indexAddr t x y, ty, pos, after, guard⟩ ρ := by
  split
  · rename_i nl tight n cells k z hx hy
    split
    · rename_i h
      exact o1_index_data (isSl_spec h.1) hx hy h.2.1 h.2.2.1 h.2.2.2
    · rfl
  · rename_i id off n sz k z hx hy
    split
    · rename_i h
      obtain ⟨h1, h2, h3, rfl⟩ := h
      exact o1_index_ref (isSl_spec h1) hx hy h2 h3
    · rfl
  · rfl
theorem o1_len {u : TypeId} : op1 P own nid get ⟨dst, .call { callee := .builtin .len, args := #[x], argTypes := #[u] }, ty, pos, after, guard⟩ ρ = match ρ x with
    | .d (.list nl tight n cells) => if isSl P u = true then some (.d (.int .i64 n), .none) else op1b P own nid get ⟨dst, .call { callee := .builtin .len, args := #[x], argTypes := #[u] }, ty, pos, after, guard⟩ ρ
    | .ref id off n sz => if isSl P u = true then some (.d (.int .i64 n), .none) else op1b P own nid get ⟨dst, .call { callee := .builtin .len, args := #[x], argTypes := #[u] }, ty, pos, after, guard⟩ ρ
    | .d (.str s) => if isStr P u = true then some (.d (.int .i64 s.size), .none) else op1b P own nid get ⟨dst, .call { callee := .builtin .len, args := #[x], argTypes := #[u] }, ty, pos, after, guard⟩ ρ
    | _ => op1b P own nid get ⟨dst, .call { callee := .builtin .len, args := #[x], argTypes := #[u] }, ty, pos, after, guard⟩ ρ := by
  split
  · rename_i nl tight n cells hx
    split
    · rename_i h; exact o1_len_data rfl (isSl_spec h) hx
    · rfl
  · rename_i id off n sz hx
    split
    · rename_i h; exact o1_len_ref rfl (isSl_spec h) hx
    · rfl
  · rename_i s hx
    split
    · rename_i h; exact s_len rfl (isStr_spec h) hx
    · rfl
  · rfl
/-- A slice's elements: their size and zero. -/
def bsl (P : Program) (t : TypeId) : Option (Nat × List PV) := match P.underlying t with
  | some (.slice elem) => match sz? P elem, zero? P elem with
    | some sz, some z => if z.length = sz ∧ 0 < sz then some (sz, z) else none
    | _, _ => none
  | _ => none
def rowS (own : Bool) (nid len sz : Nat) : Option (List PV) → Option (PV × Eff)
  | some cs => match dataAll cs, own with
    | some ds, false => some (.d (.list false true len ds), .none)
    | _, _ => some (.ref nid 0 len sz, .new nid (.cells false cs))
  | none => none
theorem o1_buildSlice {len sz : Nat} {z : List PV} {parts : Array (Nat × Operand)} (h : bsl P t = some (sz, z)) (hl : len * sz ≤ 2 ^ 24) : op1 P own nid get ⟨dst, .buildSlice t len parts, ty, pos, after, guard⟩ ρ = rowS own nid len sz (fill (fun i => some (i * sz, sz)) ((List.replicate len z).flatten) (parts.toList.map fun p => (p.1, ρ p.2))) := by
  unfold bsl at h
  unfold op1 rowS
  split at h
  · rename_i elem hu
    simp only [hu]
    split at h
    · rename_i s0 z0 h1 h2
      split at h
      · rename_i hc
        simp only [Option.some.injEq, Prod.mk.injEq] at h
        obtain ⟨rfl, rfl⟩ := h
        simp only [h1, h2]
        rw [if_pos ⟨hc.1, hc.2, hl⟩]
        cases fill (fun i => some (i * s0, s0)) (List.replicate len z0).flatten (parts.toList.map fun p => (p.1, ρ p.2)) with
        | none => rfl
        | some cs => cases dataAll cs <;> cases own <;> rfl
      · cases h
    · cases h
  · cases h
/-- What append asks of the types. -/
def apd (P : Program) (t u : TypeId) : Option (Nat × Nat) := match P.underlying t, P.underlying u with
  | some (.slice elem), some (.slice _) => match sz? P elem, (P.info? elem).map (·.bytes), zero? P elem with
    | some sz, some by_, some z => if z.length = sz ∧ 0 < sz then some (sz, by_) else none
    | _, _, _ => none
  | _, _ => none
/-- An element or a row is appended to data that has no room, or to a row of the machine's own. -/
theorem o1_append {u : TypeId} {sz by_ n m : Nat} {old new : List PV} (h : apd P t u = some (sz, by_)) (ho : content get (ρ x) = some (n, old)) (hn : content get (ρ y) = some (m, new)) (h1 : new.length = m * sz) (h2 : old.length = n * sz) (h3 : (n + m) * by_ ≤ maxBytes) (h4 : n + m < 2 ^ 62) (h5 : old.all PV.one = true) (h6 : new.all PV.one = true) :
    op1 P own nid get ⟨dst, .call { callee := .builtin .append, args := #[x, y], argTypes := #[t, u] }, ty, pos, after, guard⟩ ρ = if m = 0 then some (ρ x, .none) else match ρ x with
      | .d (.list _ true _ _) => some (.ref nid 0 (n + m) sz, .new nid (.cells false (old ++ new)))
      | .ref id _ _ sz' => if sz' = sz then some (.ref nid 0 (n + m) sz, .mv id nid (.cells false (old ++ new))) else none
      | _ => none := by
  unfold apd at h
  unfold op1
  split at h
  · rename_i elem e2 hu hv
    split at h
    · rename_i s0 b0 z0 q1 q2 q3
      split at h
      · rename_i hc
        simp only [Option.some.injEq, Prod.mk.injEq] at h
        obtain ⟨rfl, rfl⟩ := h
        have e1 : (#[t, u][0]?).bind P.underlying = some (.slice elem) := hu
        have e3 : (#[t, u][1]?).bind P.underlying = some (.slice e2) := hv
        have e4 : (#[x, y][0]?).map ρ = some (ρ x) := rfl
        have e5 : (#[x, y][1]?).map ρ = some (ρ y) := rfl
        simp only [e1, e3, e4, e5, q1, q2, q3, ho, hn]
        rw [if_pos ⟨hc.1, rfl, rfl, hc.2, h1, h2, h3, h4, h5, h6⟩]
        by_cases hm : m = 0
        · rw [if_pos hm, if_pos hm]
        · rw [if_neg hm, if_neg hm]
          generalize ρ x = p
          cases p with
          | d v => cases v with
            | list a b c d => cases b <;> rfl
            | _ => rfl
          | _ => rfl
      · cases h
    · cases h
  · cases h
theorem o1_not : op1 P own nid get ⟨dst, .unOp .not t x, ty, pos, after, guard⟩ ρ = match ρ x with
    | .d (.bool c) => some (.d (.bool (!c)), .none)
    | _ => op1b P own nid get ⟨dst, .unOp .not t x, ty, pos, after, guard⟩ ρ := by
  split
  · rename_i c hx; exact u_not hx
  · rfl
end

/-! ### Regions, step by step: what is still to come is hidden behind a letter -/
section
variable {env : Env} {fid nid0 : Nat} {ops : Array Oper} {draw : Bool} {l : List Nat} {regs : List PV} {st : St} {Q : List PV → St → List (PV × TE) → Prop} {i : Nat} {o : Oper}
/-- What comes of an operation that is no call of a function. -/
def stepQ (K : List PV → St → PV × TE → Prop) (regs : List PV) (st : St) (dst : Option Tmp) (lk : List Nat) : Option (PV × Eff) → Prop
  | some (v, e) => K (put regs dst v) ⟨e.run st.heap, st.next⟩ (v, .q e lk)
  | none => False
def notCall : Op → Bool
  | .call { callee := .value _, .. } => false
  | _ => true
theorem wo_op_k (ho : ops[i]? = some o) (hg : o.guard = none) (hc : notCall o.op = true)
    (h : ∀ K : List PV → St → PV × TE → Prop, (∀ r s x, WO env fid nid0 ops draw l r s (fun r s tr => Q r s (x :: tr)) → K r s x) → stepQ K regs st o.dst (looked (opd regs) o.op) (op1 env.P (match o.dst with | some d => env.own fid d | none => false) (nid0 + i) st.heap.get o (opd regs))) : WO env fid nid0 ops draw (i :: l) regs st Q := by
  have h1 := h _ (fun _ _ _ h => h)
  unfold stepQ at h1
  split at h1
  · rename_i v e hs
    refine wo_op ho (by unfold wantedP; rw [hg]) (fun g args ts e => by rw [e] at hc; cases hc) hs h1
  · exact h1.elim
theorem wo_guard_k (ho : ops[i]? = some o) {j : Nat} {want : Bool} (hg : o.guard = some (j, want)) {t : Tmp} (hj : (ops[j]?).bind (·.dst) = some t) (hc : notCall o.op = true)
    (h : ∀ K : List PV → St → PV × TE → Prop, (∀ r s x, WO env fid nid0 ops draw l r s (fun r s tr => Q r s (x :: tr)) → K r s x) → ∃ b, regs[t]? = some (.d (.bool b)) ∧
      (b = want → stepQ K regs st o.dst (looked (opd regs) o.op) (op1 env.P (match o.dst with | some d => env.own fid d | none => false) (nid0 + i) st.heap.get o (opd regs))) ∧ (b = (!want) → K (put regs o.dst .gone) st (.gone, .q .none []))) : WO env fid nid0 ops draw (i :: l) regs st Q := by
  obtain ⟨b, h0, h1, h2⟩ := h _ (fun _ _ _ h => h)
  have hw : wantedP ops regs o = some (b == want) := by
    unfold wantedP
    simp only [hg, hj, h0]
  by_cases e : b = want
  · have h1 := h1 e
    unfold stepQ at h1
    split at h1
    · rename_i v e' hs
      refine wo_op ho (by rw [hw, e]; simp) (fun g args ts e => by rw [e] at hc; cases hc) hs h1
    · exact h1.elim
  · have e' : b = !want := by cases b <;> cases want <;> simp_all
    exact wo_not ho (by rw [hw, e']; cases want <;> rfl) (h2 e')
theorem wx_seq_k {c d : Code} {r : List PV} {s : St} {Q : Ex → List PV → St → Prop} (h : ∀ K : List PV → St → Prop, (∀ r s, WX env fid d r s Q → K r s) → WX env fid c r s fun e r s => match e with | .normal => K r s | e => Q e r s) : WX env fid (.seq c d) r s Q := by
  refine wx_seq (WX.mono (h _ (fun _ _ h => h)) ?_)
  intro e r s h
  cases e <;> exact h
end

/-! Without a trace. -/
def WS (env : Env) (fid nid0 : Nat) (ops : Array Oper) (l : List Nat) (r : List PV) (s : St) (Q : List PV → St → Prop) : Prop := WO env fid nid0 ops false l r s fun r s _ => Q r s
def stepS (K : List PV → St → Prop) (regs : List PV) (st : St) (dst : Option Tmp) : Option (PV × Eff) → Prop
  | some (v, e) => K (put regs dst v) ⟨e.run st.heap, st.next⟩
  | none => False
section
variable {env : Env} {fid nid0 : Nat} {ops : Array Oper} {l : List Nat} {regs : List PV} {st : St} {Q : List PV → St → Prop} {i : Nat} {o : Oper}
theorem ws_region {id : Nat} {r : List PV} {s : St} {Q : Ex → List PV → St → Prop} {l : List Nat} (hl : List.range ops.size = l) {n : Nat} (hn : s.next + ops.size = n) (h : WS env fid s.next ops l r ⟨s.heap, n⟩ fun r s => Q .normal r s) : WX env fid (.region id ops false) r s Q := wx_region (by rw [hl, hn]; exact h)
theorem ws_nil (h : Q regs st) : WS env fid nid0 ops [] regs st Q := wo_nil h
theorem ws_op (ho : ops[i]? = some o) (hg : o.guard = none) (hc : notCall o.op = true)
    (h : ∀ K : List PV → St → Prop, (∀ r s, WS env fid nid0 ops l r s Q → K r s) → stepS K regs st o.dst (op1 env.P (match o.dst with | some d => env.own fid d | none => false) (nid0 + i) st.heap.get o (opd regs))) : WS env fid nid0 ops (i :: l) regs st Q := by
  refine wo_op_k ho hg hc fun K hK => ?_
  have h1 := h _ (fun _ _ h => h)
  unfold stepS at h1
  unfold stepQ
  split at h1
  · exact hK _ _ _ h1
  · exact h1.elim
theorem ws_guard (ho : ops[i]? = some o) {j : Nat} {want : Bool} (hg : o.guard = some (j, want)) {t : Tmp} (hj : (ops[j]?).bind (·.dst) = some t) (hc : notCall o.op = true)
    (h : ∀ K : List PV → St → Prop, (∀ r s, WS env fid nid0 ops l r s Q → K r s) → ∃ b, regs.getD t .undef = .d (.bool b) ∧
      (b = want → stepS K regs st o.dst (op1 env.P (match o.dst with | some d => env.own fid d | none => false) (nid0 + i) st.heap.get o (opd regs))) ∧ (b = (!want) → K (put regs o.dst .gone) st)) : WS env fid nid0 ops (i :: l) regs st Q := by
  refine wo_guard_k ho hg hj hc fun K hK => ?_
  obtain ⟨b, h0, h1, h2⟩ := h _ (fun _ _ h => h)
  refine ⟨b, ?_, fun e => ?_, fun e => hK _ _ _ (h2 e)⟩
  · rw [List.getD_eq_getElem?_getD] at h0
    cases hx : regs[t]? with
    | none => rw [hx] at h0; cases h0
    | some y => rw [hx] at h0; exact congrArg some h0
  · have h1 := h1 e
    unfold stepS at h1
    unfold stepQ
    split at h1
    · exact hK _ _ _ h1
    · exact h1.elim
theorem ws_call (ho : ops[i]? = some o) (hw : wantedP ops regs o = some true) {g : Operand} {args : Array Operand} {ts : Array TypeId} (hop : o.op = .call { callee := .value g, args := args, argTypes := ts }) {f : FuncId} {caps : List PV} (hg : opd regs g = .func f caps)
    (h : WL env f (args.toList.map (opd regs) ++ caps) st fun v s' big => WS env fid nid0 ops l (put regs o.dst v) (if big then s' else st) Q) : WS env fid nid0 ops (i :: l) regs st Q := wo_call ho hw hop hg h
end
section
variable {env : Env} {fid id m : Nat} {b c : Code} {Q : Ex → List PV → St → Prop} {r : List PV} {s : St} {e : Ex}
theorem then_normal (h : WX env fid b r s Q) : thenQ env fid b Q .normal r s := h
theorem then_exit {i : Nat} (h : Q (.exit i) r s) : thenQ env fid b Q (.exit i) r s := h
theorem then_ret (h : Q .ret r s) : thenQ env fid b Q .ret r s := h
theorem block_normal (h : Q .normal r s) : blockQ id Q .normal r s := h
theorem block_hit (h : Q .normal r s) : blockQ id Q (.exit id) r s := by
  show if id = id then _ else _
  rw [if_pos rfl]; exact h
theorem block_miss {i : Nat} (hi : i ≠ id) (h : Q (.exit i) r s) : blockQ id Q (.exit i) r s := by
  show if i = id then _ else _
  rw [if_neg hi]; exact h
theorem block_ret (h : Q .ret r s) : blockQ id Q .ret r s := h
theorem loop_normal (h : WX env fid (.loop c) r (sweep m s) Q) : loopQ env fid c m Q .normal r s := h
theorem loop_exit {i : Nat} (h : Q (.exit i) r s) : loopQ env fid c m Q (.exit i) r s := h
theorem loop_ret (h : Q .ret r s) : loopQ env fid c m Q .ret r s := h
theorem wx_true {g : Operand} {a b : Code} (hg : opd r g = .d (.bool true)) (h : WX env fid a r s Q) : WX env fid (.cond g a b) r s Q := wx_cond hg h
theorem wx_false {g : Operand} {a b : Code} (hg : opd r g = .d (.bool false)) (h : WX env fid b r s Q) : WX env fid (.cond g a b) r s Q := wx_cond hg h
end
/-- A register; a register is written. (Under names of their own: simp has its own ways with lists.) -/
def nth (l : List PV) (t : Nat) : PV := l.getD t .undef
def upd (l : List PV) (t : Nat) (v : PV) : List PV := l.set t v
theorem nth_zero {a : PV} {l : List PV} : nth (a :: l) 0 = a := rfl
theorem nth_succ {a : PV} {l : List PV} {n : Nat} : nth (a :: l) (n + 1) = nth l n := rfl
theorem upd_zero {a b : PV} {l : List PV} : upd (a :: l) 0 b = b :: l := rfl
theorem upd_succ {a b : PV} {l : List PV} {n : Nat} : upd (a :: l) (n + 1) b = a :: upd l n b := rfl
theorem upd_len {l : List PV} {n : Nat} {b : PV} : (upd l n b).length = l.length := List.length_set
theorem nth_same {l : List PV} {i : Nat} {v : PV} (h : i < l.length) : nth (upd l i v) i = v := by
  unfold nth upd
  rw [List.getD_eq_getElem?_getD, List.getElem?_set]
  simp [h]
theorem nth_ne {l : List PV} {i j : Nat} {v : PV} (h : i ≠ j) : nth (upd l i v) j = nth l j := by
  unfold nth upd
  rw [List.getD_eq_getElem?_getD, List.getElem?_set, if_neg h, ← List.getD_eq_getElem?_getD]
theorem put_some {regs : List PV} {t : Tmp} {v : PV} : put regs (some t) v = upd regs t v := rfl
theorem opd_tmp {regs : List PV} {t : Tmp} : opd regs (.tmp t) = nth regs t := rfl
theorem cells_agg {cs : List PV} : (PV.agg cs).cells? = if cs.all PV.one then some cs else none := rfl
theorem cells_d {x : DV} : (PV.d x).cells? = some [.d x] := rfl
theorem cells_ptr {i o : Nat} : (PV.ptr i o).cells? = some [.ptr i o] := rfl
theorem cells_ref {i o n s : Nat} : (PV.ref i o n s).cells? = some [.ref i o n s] := rfl
theorem cells_func {f : FuncId} {l : List PV} : (PV.func f l).cells? = some [.func f l] := rfl
theorem one_d {x : DV} : PV.one (.d x) = true := rfl
theorem one_ptr {i o : Nat} : PV.one (.ptr i o) = true := rfl
theorem one_ref {i o n s : Nat} : PV.one (.ref i o n s) = true := rfl
theorem all_d {l : List DV} : (l.map PV.d).all PV.one = true := by simp [List.all_map, PV.one, Function.comp_def]
theorem readK_1 {n : Nat} {cs : List PV} {off : Nat} : readK (some (false, n)) cs off = cs[off]? := rfl
theorem readK_n {n : Nat} {cs : List PV} {off : Nat} : readK (some (true, n)) cs off = if off + n ≤ cs.length then some (.agg ((cs.drop off).take n)) else none := rfl
theorem stepS_some {K : List PV → St → Prop} {regs : List PV} {st : St} {dst : Option Tmp} {v : PV} {e : Eff} : stepS K regs st dst (some (v, e)) = K (put regs dst v) ⟨e.run st.heap, st.next⟩ := rfl
theorem stepQ_some {K : List PV → St → PV × TE → Prop} {regs : List PV} {st : St} {dst : Option Tmp} {lk : List Nat} {v : PV} {e : Eff} : stepQ K regs st dst lk (some (v, e)) = K (put regs dst v) ⟨e.run st.heap, st.next⟩ (v, .q e lk) := rfl
theorem run_none {h : Heap} : Eff.run .none h = h := rfl
theorem run_new {h : Heap} {a : Nat} {x : Obj} : Eff.run (.new a x) h = (a, x) :: h := rfl
theorem run_wr_nil {a off : Nat} {vs : List PV} : Eff.run (.wr a off vs) [] = [] := rfl
theorem run_wr_hit {a off : Nat} {vs : List PV} {b : Bool} {cs : List PV} {h : Heap} : Eff.run (.wr a off vs) ((a, .cells b cs) :: h) = (a, .cells b (splice cs off vs)) :: Eff.run (.wr a off vs) h := by
  simp [Eff.run]
theorem run_wr_miss {a a' off : Nat} {vs : List PV} {o : Obj} {h : Heap} (hn : a' ≠ a) : Eff.run (.wr a off vs) ((a', o) :: h) = (a', o) :: Eff.run (.wr a off vs) h := by
  simp [Eff.run, hn]
theorem run_mv {a a' : Nat} {o : Obj} {h : Heap} : Eff.run (.mv a a' o) h = (a', o) :: h.del a := rfl
theorem del_nil {a : Nat} : Heap.del [] a = [] := rfl
theorem del_hit {a : Nat} {o : Obj} {h : Heap} : Heap.del ((a, o) :: h) a = h.del a := by simp [Heap.del]
theorem del_miss {a a' : Nat} {o : Obj} {h : Heap} (hn : a' ≠ a) : Heap.del ((a', o) :: h) a = (a', o) :: h.del a := by simp [Heap.del, hn]
theorem put_none {regs : List PV} {v : PV} : put regs none v = regs := rfl
theorem opd_int {regs : List PV} {k : IntKind} {n : Int} : opd regs (.const (.int k n)) = .d (.int k n) := rfl
theorem opd_bool {regs : List PV} {b : Bool} : opd regs (.const (.bool b)) = .d (.bool b) := rfl
theorem opd_str {regs : List PV} {s : ByteArray} : opd regs (.const (.string s)) = .d (.str s) := rfl
theorem opd_nil {regs : List PV} : opd regs (.const (.slice none 0 0)) = .d (.list true true 0 []) := rfl
theorem opd_func {regs : List PV} {f : FuncId} : opd regs (.func f) = .func f [] := rfl

section
variable {env : Env} {fid nid0 : Nat} {ops : Array Oper} {l : List Nat} {regs : List PV} {st : St} {Q : List PV → St → Prop} {i : Nat} {o : Oper}
def guardS (want : Bool) (yes no : Prop) : PV → Prop
  | .d (.bool b) => if b = want then yes else no
  | .tuple _ => no
  | _ => False
theorem guardS_gone {want : Bool} {yes no : Prop} {l : List PV} : guardS want yes no (.tuple l) = no := rfl
theorem guardS_bool {want b : Bool} {yes no : Prop} : guardS want yes no (.d (.bool b)) = if b = want then yes else no := rfl
theorem not_wanted {j : Nat} {want : Bool} {t : Tmp} {l : List PV} (hg : o.guard = some (j, want)) (hj : (ops[j]?).bind (·.dst) = some t) (hb : nth regs t = .tuple l) : wantedP ops regs o = some false := by
  unfold wantedP
  unfold nth at hb
  rw [List.getD_eq_getElem?_getD] at hb
  cases hx : regs[t]? with
  | none => rw [hx] at hb; cases hb
  | some y =>
    rw [hx] at hb
    have hb' : y = .tuple l := hb
    subst hb'
    simp only [hg, hj, hx]
/-- An operation behind a condition. -/
theorem ws_guard2 (ho : ops[i]? = some o) {j : Nat} {want : Bool} (hg : o.guard = some (j, want)) {t : Tmp} (hj : (ops[j]?).bind (·.dst) = some t) (hc : notCall o.op = true)
    (h : ∀ K : List PV → St → Prop, (∀ r s, WS env fid nid0 ops l r s Q → K r s) → guardS want (stepS K regs st o.dst (op1 env.P (match o.dst with | some d => env.own fid d | none => false) (nid0 + i) st.heap.get o (opd regs))) (K (put regs o.dst .gone) st) (nth regs t)) : WS env fid nid0 ops (i :: l) regs st Q := by
  have h0 := h _ (fun _ _ h => h)
  by_cases hb : ∃ b, nth regs t = .d (.bool b)
  · obtain ⟨b, hb⟩ := hb
    refine ws_guard ho hg hj hc fun K hK => ?_
    have h1 := h K hK
    rw [hb] at h1
    refine ⟨b, hb, fun e => ?_, fun e => ?_⟩
    · have h2 : if b = want then _ else _ := h1
      rwa [if_pos e] at h2
    · have h2 : if b = want then _ else _ := h1
      rwa [if_neg (fun e2 => by rw [e2] at e; cases want <;> cases e)] at h2
  · unfold guardS at h0
    split at h0
    · rename_i b hb'; exact absurd ⟨b, hb'⟩ hb
    · rename_i vs hb'
      exact wo_not ho (not_wanted hg hj hb') h0
    · exact h0.elim
def condS (a b : Prop) : PV → Prop
  | .d (.bool t) => if t = true then a else b
  | _ => False
theorem condS_bool {t : Bool} {a b : Prop} : condS a b (.d (.bool t)) = if t = true then a else b := rfl
theorem wx_cond_k {g : Operand} {a b : Code} {r : List PV} {s : St} {Q : Ex → List PV → St → Prop} (h : ∀ A B : Prop, (WX env fid a r s Q → A) → (WX env fid b r s Q → B) → condS A B (opd r g)) : WX env fid (.cond g a b) r s Q := by
  have h1 := h _ _ (fun h => h) (fun h => h)
  unfold condS at h1
  split at h1
  · rename_i t ht
    exact wx_cond ht h1
  · exact h1.elim
/-- A loop, by what gets less. -/
def indQ (T : List PV → St → Nat → Prop) (d m : Nat) (Q : Ex → List PV → St → Prop) : Ex → List PV → St → Prop
  | .normal, r, s => ∃ d', d' < d ∧ T r (sweep m s) d'
  | e, r, s => Q e r s
theorem wx_loop_ind {c : Code} {Q : Ex → List PV → St → Prop} (T : List PV → St → Nat → Prop) {d : Nat} {r : List PV} {s : St} (h : T r s d) (round : ∀ d r s, T r s d → WX env fid c r s (indQ T d s.next Q)) : WX env fid (.loop c) r s Q := by
  induction d using Nat.strongRecOn generalizing r s with
  | _ d ih =>
    refine wx_loop (WX.mono (round d r s h) ?_)
    intro e r' s' h1
    cases e with
    | normal =>
      obtain ⟨d', h2, h3⟩ := h1
      exact ih d' h2 h3
    | _ => exact h1
theorem ind_normal {T : List PV → St → Nat → Prop} {d m d' : Nat} {Q : Ex → List PV → St → Prop} {r : List PV} {s : St} (h : d' < d) (h2 : T r (sweep m s) d') : indQ T d m Q .normal r s := ⟨d', h, h2⟩
theorem ind_exit {T : List PV → St → Nat → Prop} {d m i : Nat} {Q : Ex → List PV → St → Prop} {r : List PV} {s : St} (h : Q (.exit i) r s) : indQ T d m Q (.exit i) r s := h
theorem ind_ret {T : List PV → St → Nat → Prop} {d m : Nat} {Q : Ex → List PV → St → Prop} {r : List PV} {s : St} (h : Q .ret r s) : indQ T d m Q .ret r s := h
end
theorem sweep_one {m i n : Nat} {o : Obj} (h : i < m) : sweep m ⟨[(i, o)], n⟩ = ⟨[(i, o)], n⟩ := by simp [sweep, Heap.keep, h]
theorem wl_args {env : Env} {f : FuncId} {args args' : List PV} {st : St} {Q : PV → St → Bool → Prop} (h : args = args') (g : WL env f args' st Q) : WL env f args st Q := h ▸ g
theorem data_agg {ds : List DV} : isData (.agg (ds.map .d)) = true := by simp [isData, List.all_map, Function.comp_def, isData1]
theorem data_d {d : DV} : isData (.d d) = true := rfl
end Go.Proofs.Ytpepghaknilmhaa.Vm
