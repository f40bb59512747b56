/- The machine of plain values: what it computes. Written once for all seats. -/
import Derived.WalkKit
import Derived.RangeFuncNested
import Derived.RangeFuncLeaves
namespace Go.Proofs.Ytpepghaknilmhaa.Vm
open Go

/-- Data: what lies in memory that nobody writes any more. A slice is told by its cells. -/
inductive DV where
  | bool (b : Bool)
  | int (k : IntKind) (n : Int)
  | str (s : ByteArray)
  | list (nil tight : Bool) (n : Nat) (cells : List DV)
  deriving Inhabited

/-- What a variable holds: data, or what leads to the machine's own objects. -/
inductive PV where
  | undef
  | d (v : DV)
  | ref (id off n sz : Nat)
  | ptr (id off : Nat)
  | rd (cells : List DV)
  | nilptr
  | func (f : FuncId) (caps : List PV)
  | nilfunc
  | yield (l : Nat)
  | nilmap
  | agg (cells : List PV)
  | tuple (vs : List PV)
  deriving Inhabited

/-- What a register holds whose operation was passed over. -/
abbrev PV.gone : PV := .tuple []

inductive Obj where
  | cells (box : Bool) (cs : List PV)
  | loop (fid : FuncId) (st : LoopState) (pending : Option Code) (tmps : List PV) (params : List Tmp) (assign body : Code)
  deriving Inhabited

abbrev Heap := List (Nat × Obj)
structure St where
  heap : Heap
  next : Nat

def Heap.get (h : Heap) (id : Nat) : Option Obj := (h.find? (fun p => p.1 == id)).map (·.2)
def Heap.put (h : Heap) (id : Nat) (o : Obj) : Heap := h.map fun p => if p.1 == id then (id, o) else p
def Heap.del (h : Heap) (id : Nat) : Heap := h.filter fun p => p.1 != id
def Heap.keep : Heap → (Nat → Obj → Bool) → Heap
  | [], _ => []
  | (i, o) :: h, f => if f i o then (i, o) :: Heap.keep h f else (Heap.keep h f).del i

def PV.one : PV → Bool
  | .undef | .agg _ | .tuple _ => false
  | _ => true
def PV.cells? : PV → Option (List PV)
  | .agg cs => if cs.all PV.one then some cs else none
  | v => if v.one then some [v] else none

def ofConst1 : Value → PV
  | .bool b => .d (.bool b)
  | .int k n => .d (.int k n)
  | .string s => .d (.str s)
  | .slice none 0 0 => .d (.list true true 0 [])
  | .pointer none => .nilptr
  | .nilFunc => .nilfunc
  | .map none => .nilmap
  | _ => .undef
def ofConst : Value → PV
  | .agg cs => .agg (cs.toList.map ofConst1)
  | v => ofConst1 v

/-- A value that is the same in every world. -/
def PV.toV1 : PV → Option Value
  | .d (.bool b) => some (.bool b)
  | .d (.int k n) => some (.int k n)
  | .d (.str s) => some (.string s)
  | .d (.list true true 0 []) => some (.slice none 0 0)
  | .nilptr => some (.pointer none)
  | .nilfunc => some .nilFunc
  | .nilmap => some (.map none)
  | _ => none
def PV.toV : PV → Option Value
  | .agg cs => (cs.mapM PV.toV1).map fun vs => .agg vs.toArray
  | v => v.toV1

def opd (regs : List PV) : Operand → PV
  | .tmp t => regs.getD t .undef
  | .const v => ofConst v
  | .func f => .func f []
  | .global _ => .undef
def put (regs : List PV) (dst : Option Tmp) (v : PV) : List PV :=
  match dst with
  | some d => regs.set d v
  | none => regs

/-- What an operation comes to that asks neither memory nor chance. -/
def calm {α : Type} (P : Program) : Sem α → Option α
  | .pure a => some a
  | .program k => calm P (k P)
  | .mark _ k => calm P k
  | _ => none

inductive Eff where
  | none
  | new (id : Nat) (o : Obj)
  | wr (id off : Nat) (vs : List PV)
  | mv (id id' : Nat) (o : Obj)

def splice (cs : List PV) (off : Nat) (xs : List PV) : List PV := cs.take off ++ xs ++ cs.drop (off + xs.length)
def Eff.at (e : Eff) (id : Nat) (o : Option Obj) : Option Obj :=
  match e with
  | .none => o
  | .new a x => if id = a then some x else o
  | .wr a off vs => if id = a then (match o with | some (.cells b cs) => some (.cells b (splice cs off vs)) | o => o) else o
  | .mv a a' x => if id = a' then some x else if id = a then Option.none else o
def Eff.run (e : Eff) (h : Heap) : Heap :=
  match e with
  | .none => h
  | .new a x => (a, x) :: h
  | .wr a off vs => h.map fun p => if p.1 == a then (match p.2 with | .cells b cs => (p.1, .cells b (splice cs off vs)) | o => (p.1, o)) else p
  | .mv a a' x => (a', x) :: h.del a

variable (P : Program)
def sz? (t : TypeId) : Option Nat := (P.info? t).map (·.size)
def agg? (t : TypeId) : Option Bool :=
  match P.underlying t with
  | some (.struct _) | some (.array _ _) => some true
  | some _ => some false
  | none => none
def zero? (t : TypeId) : Option (List PV) := ((P.info? t).bind (·.zero)).bind fun z => (ofConst z).cells?
def readAt (t : TypeId) (cs : List PV) (off : Nat) : Option PV :=
  match agg? P t, sz? P t with
  | some true, some n => if off + n ≤ cs.length then some (.agg ((cs.drop off).take n)) else none
  | some false, some _ => cs[off]?
  | _, _ => none

def fill (place : Nat → Option (Nat × Nat)) (cells : List PV) : List (Nat × PV) → Option (List PV)
  | [] => some cells
  | (i, v) :: rest =>
    match place i, v.cells? with
    | some (off, size), some xs => if xs.length = size ∧ off + size ≤ cells.length then fill place (splice cells off xs) rest else none
    | _, _ => none

def data? : PV → Option DV
  | .d v => some v
  | _ => none
def dataAll (l : List PV) : Option (List DV) := l.mapM data?

/-- The elements of a slice's cells, from the objects' contents. -/
def content (get : Nat → Option Obj) : PV → Option (Nat × List PV)
  | .d (.list _ _ n cells) => some (n, cells.map .d)
  | .ref id off n sz => match get id with
    | some (.cells _ cs) => if off + n * sz ≤ cs.length then some (n, (cs.drop off).take (n * sz)) else none
    | _ => none
  | _ => none

def byteCells (s : ByteArray) : List PV := s.data.toList.map fun b => .d (.int .u8 b.toNat)
/-- What can be copied: a slice's elements, a string's bytes. -/
def source (get : Nat → Option Obj) : PV → Option (Nat × List PV)
  | .d (.str s) => some (s.size, byteCells s)
  | p => content get p
def toInts : List PV → Option (List Int)
  | [] => some []
  | .d (.int .u8 n) :: l => (toInts l).map fun r => n :: r
  | _ :: _ => none

def idOf : PV → List Nat
  | .ref id _ _ _ => [id]
  | .ptr id _ => [id]
  | _ => []

/-- The objects that an operation looks at. -/
def looked (ρ : Operand → PV) : Op → List Nat
  | .load _ a | .store _ a _ => idOf (ρ a)
  | .call { callee := .builtin .append, args, .. } | .call { callee := .builtin .copy, args, .. } => args.toList.flatMap fun x => idOf (ρ x)
  | .convert _ _ x => idOf (ρ x)
  | _ => []

def maxBytes : Nat := 140737488355328

def asN (v : PV) : Option Nat := match v with | .d (.int _ i) => if 0 ≤ i then some i.toNat else none | _ => none
def bMax (n : Nat) (cap : Option Nat) : Option PV → Option (Option Nat)
  | some v => (asN v).bind fun i => if i ≤ cap.getD n then some (some i) else none
  | none => some cap
def bHigh (n : Nat) (m : Option Nat) (full : Bool) : Option PV → Option Nat
  | some v => (asN v).bind fun i => if i ≤ (if full then m.getD 0 else n) then some i else none
  | none => if full then none else some n
def bLow (h : Nat) : Option PV → Option Nat
  | some v => (asN v).bind fun i => if i ≤ h then some i else none
  | none => some 0
/-- The bounds of a slice expression: low, high, and the room that is left (none: as it was). -/
def bounds (n : Nat) (cap : Option Nat) (low high max : Option PV) : Option (Nat × Nat × Option Nat) :=
  (bMax n cap max).bind fun m => (bHigh n m max.isSome high).bind fun h => (bLow h low).map fun l => (l, h, m)

/-- Is the room that is left all taken? -/
def tightOf (m : Option Nat) (h : Nat) : Bool := match m with | some c => c == h | none => false

/-- A slice against nil. -/
def nilEq (op : BinOp) (t : TypeId) (p q : PV) : Option Bool :=
  match p, q with
  | .d (.list nl _ _ _), .d (.list true true 0 []) => match P.underlying t, op with
    | some (.slice _), .eql => some nl
    | some (.slice _), .neq => some (!nl)
    | _, _ => none
  | .ref _ _ _ _, .d (.list true true 0 []) => match P.underlying t, op with
    | some (.slice _), .eql => some false
    | some (.slice _), .neq => some true
    | _, _ => none
  | _, _ => none

/-- One operation that is no call of a function: its value and what it does. -/
def op1 (own : Bool) (nid : Nat) (get : Nat → Option Obj) (o : Oper) (ρ : Operand → PV) : Option (PV × Eff) :=
  match o.op with
  | .move x | .assign x => some (ρ x, .none)
  | .pick c a b => match ρ c with
    | .d (.bool t) => some (if t then ρ a else ρ b, .none)
    | _ => none
  | .alloc elem => (zero? P elem).map fun cs => (.ptr nid 0, .new nid (.cells true cs))
  | .box _ x => (ρ x).cells?.map fun cs => (.ptr nid 0, .new nid (.cells true cs))
  | .load t a => match ρ a with
    | .ptr id off => match get id with
      | some (.cells _ cs) => (readAt P t cs off).map fun v => (v, .none)
      | _ => none
    | .rd cells => (readAt P t (cells.map .d) 0).map fun v => (v, .none)
    | _ => none
  | .store t a x => match ρ a, (ρ x).cells?, sz? P t with
    | .ptr id off, some xs, some n => match get id with
      | some (.cells _ cs) => if xs.length = n ∧ off + n ≤ cs.length then some (.undef, .wr id off xs) else none
      | _ => none
    | _, _, _ => none
  | .nilCheck x => match ρ x with
    | .ptr id off => some (.ptr id off, .none)
    | .rd cells => some (.rd cells, .none)
    | .func f caps => some (.func f caps, .none)
    | _ => none
  | .fieldAddr s x f => match P.underlying s with
    | some (.struct fields) => match fields[f]? with
      | some fl => match sz? P fl.type with
        | some n => if n = 0 then none else match ρ x with
          | .ptr id off => some (.ptr id (off + fl.offset), .none)
          | .rd cells => some (.rd (cells.drop fl.offset), .none)
          | _ => none
        | none => none
      | none => none
    | _ => none
  | .indexAddr t x i => match ρ i, P.underlying t with
    | .d (.int _ i), some (.array len elem) => match sz? P elem with
      | some sz => if 0 ≤ i ∧ i < len then (match ρ x with
        | .ptr id off => some (.ptr id (off + i.toNat * sz), .none)
        | .rd cells => some (.rd (cells.drop (i.toNat * sz)), .none)
        | _ => none) else none
      | none => none
    | .d (.int _ i), some (.slice elem) => match sz? P elem with
      | some sz => (match ρ x with
        | .ref id off n sz' => if 0 ≤ i ∧ i < n ∧ sz' = sz then some (.ptr id (off + i.toNat * sz), .none) else none
        | .d (.list _ _ n cells) => if 0 ≤ i ∧ i < n ∧ 0 < cells.length then some (.rd (cells.drop (i.toNat * sz)), .none) else none
        | _ => none)
      | none => none
    | _, _ => none
  | .field t x f => match P.underlying t with
    | some (.struct fields) => match fields[f]?, ρ x with
      | some fl, .agg cs => (readAt P fl.type cs fl.offset).map fun v => (v, .none)
      | _, _ => none
    | _ => none
  | .extract x i => match ρ x with
    | .tuple vs => (vs[i]?).map fun v => (v, .none)
    | _ => none
  | .makeFunc (.func f) first captured => if first.size = 0 then some (.func f (captured.toList.map ρ), .none) else none
  | .build t parts => match zero? P t, P.underlying t with
    | some z, some (.struct fields) =>
      match fields.toList.mapM (fun f => (sz? P f.type).map fun n => (f.offset, n)) with
      | some places => (fill (fun i => places[i]?) z (parts.toList.map fun p => (p.1, ρ p.2))).map fun cs => (.agg cs, .none)
      | none => none
    | some z, some (.array _ elem) => match sz? P elem with
      | some sz => (fill (fun i => some (i * sz, sz)) z (parts.toList.map fun p => (p.1, ρ p.2))).map fun cs => (.agg cs, .none)
      | none => none
    | _, _ => none
  | .buildSlice t len parts => match P.underlying t with
    | some (.slice elem) => match sz? P elem, zero? P elem with
      | some sz, some z => if z.length = sz ∧ 0 < sz ∧ len * sz ≤ 2 ^ 24 then
          match fill (fun i => some (i * sz, sz)) ((List.replicate len z).flatten) (parts.toList.map fun p => (p.1, ρ p.2)) with
          | some cs => match dataAll cs, own with
            | some ds, false => some (.d (.list false true len ds), .none)
            | _, _ => some (.ref nid 0 len sz, .new nid (.cells false cs))
          | none => none
        else none
      | _, _ => none
    | _ => none
  | .makeSlice t l c => match P.underlying t, ρ l, ρ c with
    | some (.slice elem), .d (.int _ n), .d (.int _ m) => match sz? P elem, zero? P elem, (P.info? elem).map (·.bytes) with
      | some sz, some z, some by_ => if z.length = sz ∧ 0 < sz ∧ 0 ≤ n ∧ n ≤ m ∧ m.toNat * by_ ≤ maxBytes ∧ m < 2 ^ 62 then
          some (.ref nid 0 n.toNat sz, .new nid (.cells false ((List.replicate n.toNat z).flatten)))
        else none
      | _, _, _ => none
    | _, _, _ => none
  | .slice t x low high max => match P.underlying t, ρ x with
    | some (.slice elem), .d (.list nl tight n cells) => match sz? P elem, bounds n (if tight then some n else none) (low.map ρ) (high.map ρ) (max.map ρ) with
      | some sz, some (l, h, m) => if cells.length = n * sz then some (.d (.list nl (tightOf m h) (h - l) ((cells.drop (l * sz)).take ((h - l) * sz))), .none) else none
      | _, _ => none
    | some (.slice elem), .ref id off n sz' => match sz? P elem, bounds n none (low.map ρ) (high.map ρ) (max.map ρ) with
      | some sz, some (l, h, none) => if sz' = sz then (if l < h ∨ l = 0 then some (.ref id (off + l * sz) (h - l) sz, .none) else some (.d (.list false false 0 []), .none)) else none
      | _, _ => none
    | some (.string), _ => scalar
    | _, _ => none
  | .call { callee := .builtin .len, args, argTypes } => match (argTypes[0]?).bind P.underlying, (args[0]?).map ρ with
    | some (.slice _), some (.d (.list _ _ n _)) => some (.d (.int .i64 n), .none)
    | some (.slice _), some (.ref _ _ n _) => some (.d (.int .i64 n), .none)
    | some (.slice _), _ => none
    | some (.array n _), some _ => some (.d (.int .i64 n), .none)
    | _, _ => scalar
  | .call { callee := .builtin .append, args, argTypes } => match (argTypes[0]?).bind P.underlying, (argTypes[1]?).bind P.underlying, (args[0]?).map ρ, (args[1]?).map ρ with
    | some (.slice elem), some (.slice _), some s, some x => match sz? P elem, (P.info? elem).map (·.bytes), zero? P elem, content get s, content get x with
      | some sz, some by_, some z, some (n, old), some (m, new) =>
        if z.length = sz ∧ args.size = 2 ∧ argTypes.size = 2 ∧ 0 < sz ∧ new.length = m * sz ∧ old.length = n * sz ∧ (n + m) * by_ ≤ maxBytes ∧ n + m < 2 ^ 62 ∧ old.all PV.one ∧ new.all PV.one then
          if m = 0 then some (s, .none)
          else match s with
            | .d (.list _ true _ _) => some (.ref nid 0 (n + m) sz, .new nid (.cells false (old ++ new)))
            | .ref id _ _ sz' => if sz' = sz then some (.ref nid 0 (n + m) sz, .mv id nid (.cells false (old ++ new))) else none
            | _ => none
        else none
      | _, _, _, _, _ => none
    | _, _, _, _ => none
  | .call { callee := .builtin .copy, args, argTypes } => match (argTypes[0]?).bind P.underlying, (args[0]?).map ρ, (args[1]?).map ρ with
    | some (.slice elem), some d, some x => match sz? P elem, source get x with
      | some sz, some (m, new) => if 0 < sz ∧ new.length = m * sz ∧ new.all PV.one then (match d with
        | .ref id off n sz' => match get id with
          | some (.cells _ cs) => if sz' = sz ∧ off + n * sz ≤ cs.length then some (.d (.int .i64 (Nat.min m n : Nat)), .wr id off (new.take (Nat.min m n * sz))) else none
          | _ => none
        | .d (.list _ _ 0 _) => some (.d (.int .i64 0), .none)
        | _ => none) else none
      | _, _ => none
    | _, _, _ => none
  | .convert src dst x => match ρ x with
    | .ref id off n sz => match P.underlying src, P.underlying dst with
      | some (.slice e), some .string => match P.underlying e, content get (.ref id off n sz) with
        | some (.int .u8), some (m, cells) => if sz = 1 ∧ cells.length = m then (toInts cells).map fun l => (.d (.str (l.foldl (fun r n => r.push (UInt8.ofNat n.toNat)) ByteArray.empty)), .none) else none
        | _, _ => none
      | _, _ => none
    | _ => scalar
  | .select _ _ | .defer _ => none
  | .binOp op t x y _ => match nilEq P op t (ρ x) (ρ y) with
    | some b => some (.d (.bool b), .none)
    | none => scalar
  | _ => scalar
where
  scalar : Option (PV × Eff) :=
    match o.op.operands.toList.mapM (fun x => (ρ x).toV) with
    | some _ => match calm P (execOp (fun x => ((ρ x).toV).getD undef) o) with
      | some (.value v) => match ofConst v with
        | .undef => none
        | p => some (p, .none)
      | _ => none
    | none => none
end Go.Proofs.Ytpepghaknilmhaa.Vm
