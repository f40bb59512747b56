/- The machine of plain values: regions, loops, calls. Written once for all seats. -/
import Derived.Test.YtpepghaknilmhaaVmA
namespace Go.Proofs.Ytpepghaknilmhaa.Vm
open Go
set_option linter.unusedVariables false

/-- How a function is called: on data alone (what it makes is frozen, or, with own, its rows become the caller's); on a picture of the caller's rows (its result has none); in the caller's own memory. -/
inductive Mode where
  | data (own : Bool)
  | snap
  | heap

structure Env where
  P : Program
  ext : FuncId → List PV → Option PV
  mode : FuncId → Mode
  own : FuncId → Tmp → Bool

inductive Ex where
  | normal
  | exit (id : Nat)
  | goto (l : Nat)
  | ret

structure Lvl where
  call : FuncId → List PV → St → Option (PV × St)
  code : FuncId → Code → List PV → St → Option (Ex × List PV × St)

def okFn (P : Program) (f : FuncId) : Bool :=
  match P.funcs[f]? with
  | some fn => fn.name != "runtime.NumGoroutine" && fn.body.isSome
  | none => false

def isData1 : PV → Bool
  | .d _ | .nilptr | .nilfunc | .nilmap => true
  | _ => false
def isData : PV → Bool
  | .agg cs => cs.all isData1
  | p => isData1 p

def thread {σ : Type} (f : σ → PV → Option (PV × σ)) : σ → List PV → Option (List PV × σ)
  | h, [] => some ([], h)
  | h, p :: l => (f h p).bind fun x => (thread f x.2 l).map fun y => (x.1 :: y.1, y.2)

/-- Freezing a cell: its rows become data; their names are gone. -/
def frzC : Nat → Heap → PV → Option (PV × Heap)
  | 0, _, _ => none
  | k + 1, h, p => match p with
    | .ref id off n sz => match h.get id with
      | some (.cells _ cs) => if off + n * sz ≤ cs.length then
          (thread (frzC k) (h.del id) ((cs.drop off).take (n * sz))).bind fun x => (dataAll x.1).map fun ds => (.d (.list false false n ds), x.2)
        else none
      | _ => none
    | p => if isData1 p then some (p, h) else none
def frzV (k : Nat) (h : Heap) : PV → Option (PV × Heap)
  | .agg cs => (thread (frzC k) h cs).map fun x => (.agg x.1, x.2)
  | p => frzC k h p

/-- A result's cell comes to the caller: its row as the caller's own. -/
def adoptC (k : Nat) (own : Bool) (x : Heap × St) (p : PV) : Option (PV × (Heap × St)) :=
  match own, p with
  | true, .ref id off n sz => match x.1.get id with
    | some (.cells _ cs) => if off + n * sz ≤ cs.length then
        (thread (frzC k) (x.1.del id) ((cs.drop off).take (n * sz))).bind fun y => (dataAll y.1).map fun ds => (.ref x.2.next 0 n sz, y.2, ⟨(x.2.next, .cells false (ds.map .d)) :: x.2.heap, x.2.next + 1⟩)
      else none
    | _ => none
  | _, p => (frzC k x.1 p).map fun y => (y.1, y.2, x.2)
def adoptV (k : Nat) (own : Bool) (x : Heap × St) : PV → Option (PV × (Heap × St))
  | .agg cs => (thread (adoptC k own) x cs).map fun y => (.agg y.1, y.2)
  | p => adoptC k own x p
def adopt (k : Nat) (own : Bool) (x : Heap × St) : PV → Option (PV × (Heap × St))
  | .tuple vs => (thread (adoptV k own) x vs).map fun y => (.tuple y.1, y.2)
  | p => adoptV k own x p

def frzR (k : Nat) (h : Heap) : PV → Option (PV × Heap)
  | .tuple vs => (thread (frzV k) h vs).map fun x => (.tuple x.1, x.2)
  | p => frzV k h p

def scal : PV → Bool
  | .tuple vs => vs.all fun p => p.toV.isSome
  | p => p.toV.isSome

def leads1 : PV → Bool
  | .ptr _ _ | .func _ _ | .yield _ => true
  | _ => false
def leadsTo : PV → Bool
  | .agg cs | .tuple cs => cs.any fun p => match p with | .agg cs => cs.any leads1 | p => leads1 p
  | p => leads1 p
def Obj.local : Obj → Bool
  | .cells b _ => b
  | .loop .. => true
def sweep (mark : Nat) (st : St) : St := ⟨st.heap.keep fun id o => id < mark || !o.local, st.next⟩

/-- A call: the result; whether it had to do with the caller's memory. -/
def callOp (env : Env) (L : Lvl) (f : FuncId) (args : List PV) (st : St) : Option (PV × St × Bool) :=
  if okFn env.P f then
    match env.ext f args with
    | some r => some (r, st, false)
    | none => match env.mode f with
      | .heap => (L.call f args st).map fun x => (x.1, if leadsTo x.1 then x.2 else sweep st.next x.2, true)
      | .snap => (thread (frzV 8) st.heap args).bind fun y => (L.call f y.1 ⟨[], 0⟩).bind fun x => if scal x.1 then some (x.1, st, true) else none
      | .data own => if own || !args.all isData then
          (thread (frzV 8) st.heap args).bind fun y => (L.call f y.1 ⟨[], 0⟩).bind fun x => (adopt 8 own (x.2.heap, ⟨y.2, st.next⟩) x.1).map fun z => (z.1, z.2.2, true)
        else (L.call f args ⟨[], 0⟩).bind fun x => (frzR 8 x.2.heap x.1).map fun z => (z.1, st, false)
  else none

/-- A round of a range over a function. -/
def yieldRun (L : Lvl) (l : Nat) (args : List PV) (st : St) : Option (PV × St) :=
  match st.heap.get l with
  | some (.loop fid .ready pe tmps ps as bo) =>
    if args.length = ps.length then
      match L.code fid as ((ps.zip args).foldl (fun t x => t.set x.1 x.2) tmps) st with
      | some (.normal, r1, s1) => match s1.heap.get l with
        | some (.loop fid' .ready pe' tmps' ps' as' bo') =>
          match L.code fid bo r1 ⟨s1.heap.put l (.loop fid' .busy pe' tmps' ps' as' bo'), s1.next⟩ with
          | some (e, _, s2) => match s2.heap.get l with
            | some (.loop fid2 st2 pe2 tmps2 ps2 as2 bo2) =>
              match e with
              | .normal => some (.d (.bool true), sweep st.next ⟨s2.heap.put l (.loop fid2 .ready none tmps2 ps2 as2 bo2), s2.next⟩)
              | .ret => some (.d (.bool false), ⟨s2.heap.put l (.loop fid2 .done (some .ret) tmps2 ps2 as2 bo2), s2.next⟩)
              | .exit id => some (.d (.bool false), ⟨s2.heap.put l (.loop fid2 .done (some (.exit id)) tmps2 ps2 as2 bo2), s2.next⟩)
              | .goto t => some (.d (.bool false), ⟨s2.heap.put l (.loop fid2 .done (some (.goto t)) tmps2 ps2 as2 bo2), s2.next⟩)
            | _ => none
          | none => none
        | _ => none
      | _ => none
    else none
  | _ => none

inductive TE where
  | q (e : Eff) (looked : List Nat)
  | big (hid : Nat → Bool) (after : Heap)
def TE.at : TE → Nat → Option Obj → Option Obj
  | .q e _, id, o => e.at id o
  | .big hid after, id, o => if hid id then o else after.get id

def wantedP (ops : Array Oper) (regs : List PV) (o : Oper) : Option Bool :=
  match o.guard with
  | none => some true
  | some (j, want) => match (ops[j]?).bind (·.dst) with
    | some t => match regs[t]? with
      | some (.d (.bool b)) => some (b == want)
      | some (.tuple _) => some false
      | _ => none
    | none => none

def hidden (draw : Bool) (nid0 : Nat) (ops : Array Oper) (i id : Nat) : Bool := draw && (decide (nid0 ≤ id) && decide (id < nid0 + ops.size)) && !((Region.before ops).getD i 0).testBit (id - nid0)

def stepOp (env : Env) (L : Lvl) (fid : FuncId) (nid0 : Nat) (ops : Array Oper) (draw : Bool) (i : Nat) (o : Oper) (regs : List PV) (st : St) : Option (PV × St × TE) :=
  match o.op with
  | .call { callee := .value g, args, .. } =>
    let run : Option (PV × St × Bool) := match opd regs g with
      | .func f caps => callOp env L f (args.toList.map (opd regs) ++ caps) (if draw then ⟨st.heap.keep fun id _ => !hidden draw nid0 ops i id, st.next⟩ else st)
      | .yield l => (yieldRun L l (args.toList.map (opd regs)) (if draw then ⟨st.heap.keep fun id _ => !hidden draw nid0 ops i id, st.next⟩ else st)).map fun x => (x.1, x.2, true)
      | _ => none
    run.bind fun x => if x.2.2 then
        (if draw then (if st.next ≤ x.2.1.next then some (x.1, ⟨(x.2.1.heap.keep fun id _ => !hidden draw nid0 ops i id) ++ st.heap.keep fun id _ => hidden draw nid0 ops i id, x.2.1.next⟩, .big (hidden draw nid0 ops i) x.2.1.heap) else none)
        else some (x.1, x.2.1, .big (fun _ => false) x.2.1.heap))
      else some (x.1, st, .q .none [])
  | _ => (op1 env.P (match o.dst with | some d => env.own fid d | none => false) (nid0 + i) st.heap.get o (opd regs)).map fun x =>
      (x.1, ⟨x.2.run st.heap, st.next⟩, .q x.2 (looked (opd regs) o.op))

def runOps (env : Env) (L : Lvl) (fid : FuncId) (nid0 : Nat) (ops : Array Oper) (draw : Bool) : List Nat → List PV → St → Option (List PV × St × List (PV × TE))
  | [], regs, st => some (regs, st, [])
  | i :: rest, regs, st => match ops[i]? with
    | none => none
    | some o => match wantedP ops regs o with
      | none => none
      | some false => (runOps env L fid nid0 ops draw rest (put regs o.dst .gone) st).map fun x => (x.1, x.2.1, (.gone, .q .none []) :: x.2.2)
      | some true => (stepOp env L fid nid0 ops draw i o regs st).bind fun y => (runOps env L fid nid0 ops draw rest (put regs o.dst y.1) y.2.1).map fun x => (x.1, x.2.1, (y.1, y.2.2) :: x.2.2)

/-- Operations that have to do with memory, or may have. -/
def loud : Op → Bool
  | .load .. | .store .. => true
  | .call { callee := .value _, .. } => true
  | .call { callee := .builtin .append, .. } | .call { callee := .builtin .copy, .. } => true
  | .alloc _ | .box .. | .makeSlice .. | .buildSlice .. | .convert .. => true
  | _ => false
/-- Pairs of operations that may come in either order. -/
def unord (ops : Array Oper) : List (Nat × Nat) :=
  let b := Region.before ops
  ((List.range ops.size).filter fun i => (ops[i]?).any fun o => loud o.op).flatMap fun i =>
    (((List.range ops.size).filter fun j => decide (i < j) && (ops[j]?).any fun o => loud o.op).filter fun j => !(b.getD j 0).testBit i).map fun j => (i, j)
/-- Registers: who writes one and who looks at it come in one order. -/
def regsOk (ops : Array Oper) : Bool :=
  let b := Region.before ops
  (List.range ops.size).all fun i => match (ops[i]?).bind (·.dst) with
    | none => true
    | some d => (List.range ops.size).all fun j => i == j || (match ops[j]? with
      | some o => !((o.looksAt ops).contains d || o.dst == some d) || (b.getD (max i j) 0).testBit (min i j)
      | none => true)
def static (ops : Array Oper) : Bool := regsOk ops && ops.zipIdx.all fun x => x.1.after.all fun e => decide (e.on < x.2) || !Region.binds .any e

def touch : Eff → List Nat
  | .none => []
  | .new id _ => [id]
  | .wr id _ _ => [id]
  | .mv id id' _ => [id, id']
def apartL (a b : List Nat) : Bool := a.all fun i => !b.contains i
def compat : TE → TE → Bool
  | .q e l, .q e' l' => (apartL (touch e) l' && apartL (touch e') l && apartL (touch e) (touch e'))
  | .big hid _, .q e l | .q e l, .big hid _ => l.isEmpty && (match e with | .none => true | .new id _ => hid id | _ => false)
  | .big .., .big .. => false
def compatAll (ops : Array Oper) (tr : List (PV × TE)) : Bool :=
  (unord ops).all fun x => match tr[x.1]?, tr[x.2]? with
    | some a, some b => compat a.2 b.2
    | _, _ => false

def region (env : Env) (L : Lvl) (fid : FuncId) (ops : Array Oper) (draw : Bool) (regs : List PV) (st : St) : Option (Ex × List PV × St) :=
  match runOps env L fid st.next ops draw (List.range ops.size) regs ⟨st.heap, st.next + ops.size⟩ with
  | some (r, s, tr) => if draw then (if static ops && compatAll ops tr then some (.normal, r, s) else none) else some (.normal, r, s)
  | none => none

def loopN (f : List PV → St → Option (Ex × List PV × St)) : Nat → List PV → St → Option (Ex × List PV × St)
  | 0, _, _ => none
  | k + 1, r, s => match f r s with
    | some (.normal, r', s') => loopN f k r' (sweep s.next s')
    | x => x

def exec (env : Env) (L : Lvl) (fuel : Nat) (fid : FuncId) : Code → List PV → St → Option (Ex × List PV × St)
  | .skip, r, s => some (.normal, r, s)
  | .label _, r, s => some (.normal, r, s)
  | .region _ ops draw, r, s => region env L fid ops draw r s
  | .seq a b, r, s => match exec env L fuel fid a r s with
    | some (.normal, r', s') => exec env L fuel fid b r' s'
    | x => x
  | .cond c a b, r, s => match opd r c with
    | .d (.bool true) => exec env L fuel fid a r s
    | .d (.bool false) => exec env L fuel fid b r s
    | _ => none
  | .block id c, r, s => match exec env L fuel fid c r s with
    | some (.exit id', r', s') => some (if id' = id then .normal else .exit id', r', s')
    | x => x
  | .loop c, r, s => loopN (exec env L fuel fid c) fuel r s
  | .rangeFunc g ps as bo, r, s => match opd r g with
    | .func f caps => if okFn env.P f then
        match L.call f (.yield s.next :: caps) ⟨(s.next, .loop fid .ready none r ps.toList as bo) :: s.heap, s.next + 1⟩ with
        | some (_, s1) => match s1.heap.get s.next with
          | some (.loop _ stt pe _ _ _ _) => if stt = .busy then none else
              match pe with
              | none => some (.normal, r, sweep s.next ⟨s1.heap.del s.next, s1.next⟩)
              | some .ret => some (.ret, r, sweep s.next ⟨s1.heap.del s.next, s1.next⟩)
              | some (.exit id) => some (.exit id, r, sweep s.next ⟨s1.heap.del s.next, s1.next⟩)
              | some (.goto l) => some (.goto l, r, sweep s.next ⟨s1.heap.del s.next, s1.next⟩)
              | _ => none
          | _ => none
        | none => none
      else none
    | _ => none
  | .exit id, r, s => some (.exit id, r, s)
  | .goto l, r, s => some (.goto l, r, s)
  | .ret, r, s => some (.ret, r, s)
  | .scope _, _, _ => none
  | .refuse _, _, _ => none

def resultsP (P : Program) (fn : Func) (regs : List PV) (st : St) : Option PV :=
  (fn.results.toList.mapM fun (x : ResultVar) => match x with
    | .tmp t => regs[t]?
    | .cell a t => match regs[a]? with
      | some (.ptr id off) => match st.heap.get id with
        | some (.cells _ cs) => readAt P t cs off
        | _ => none
      | _ => none).map fun vs => match vs with
    | [v] => v
    | vs => .tuple vs

def callF (env : Env) (L : Lvl) (fuel : Nat) (f : FuncId) (args : List PV) (st : St) : Option (PV × St) :=
  match env.P.funcs[f]? with
  | none => none
  | some fn => match fn.body with
    | none => none
    | some body => match exec env L fuel f body (args ++ List.replicate (fn.ntmps - args.length) .undef) st with
      | some (.normal, r, s) | some (.ret, r, s) => (resultsP env.P fn r s).map fun v => (v, s)
      | _ => none

def lvl (env : Env) : Nat → Lvl
  | 0 => ⟨fun _ _ _ => none, fun _ _ _ _ => none⟩
  | k + 1 => ⟨callF env (lvl env k) k, fun fid c r s => exec env (lvl env k) k fid c r s⟩
end Go.Proofs.Ytpepghaknilmhaa.Vm
