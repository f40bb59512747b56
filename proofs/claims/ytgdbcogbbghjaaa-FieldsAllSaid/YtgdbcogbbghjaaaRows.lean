/-
  NARROWER THAN 'FOR EVERY INPUT', by the rows' own cells (each row's printed sentence says how): FieldsTells: loops · FieldsFields: loops · FieldsAlong: loops · FieldsAll: loops · FieldsGets: loops.
  DERIVED. THE GIVEN ROWS OF THIS SEAT. 5 by the template 'for every input the law returns true; each argument reads behind the call as it read before'; 0 by the template 'total and deterministic' (their statements: YtgdbcogbbghjaaaTotals.lean).
  GIVEN WITH THE SEED: the statements are not yours to turn. If you find one false, say at which input.
  Laid BY PROGRAM, IN A SANDBOX (cutbox-rows.mjs): the forced cells as the released guide's own fill.sh prints them over the translation 834854f1ec5c842b… (all of the seat's roots in one cut). By AI agents, Wed Nov 11 2026. No macro, syntax, notation, axiom, sorry.
-/
import Derived.Test.YtgdbcogbbghjaaaChecked
import GoSem.Claim
import GoSem.ClaimJoined
import GoSem.ClaimMapViews
import Derived.JoinedTies
import Derived.KernelRfl
namespace Go.Proofs.Ytgdbcogbbghjaaa
/- THE CELL 'sum', in the pinned program and in every row, IS THE sha256 OF THE DUMP (.gsa) THAT YtgdbcogbbghjaaaProg.lean LOADS. Nothing in Lean hashes anything: it is a label: what it is worth is what the hold of that sum in a sandbox is worth. -/
noncomputable def Try.pinned : Pinned := { name := "ytgdbcogbbghjaaa", sum := "834854f1ec5c842bebeb622453f851ed925f8564c15d3d254d85c2d04f8d09f0", checked := Try.checked }
namespace Rows
def none {H : Type} : Left H := { results := [], args := [] }

/-- 'arboristlaw46.FieldsTells': WHATEVER THE INPUT: true; the input reads as it did. -/
def fieldsTellsSpec : ChangeSpec := { name := "fieldsTells", fn := fun _ => fun
  | [d1, d2] => { results := [.lit (.bool true)], args := [d1, d2] }
  | _ => none }
def fieldsTellsRow : OpenClaim := { program := "ytgdbcogbbghjaaa", sum := "834854f1ec5c842bebeb622453f851ed925f8564c15d3d254d85c2d04f8d09f0", func := "arborist/arboristlaw46.FieldsTells", spec := "fieldsTells", unfollowed := true, recurses := true, loops := true, apart := false }
def FieldsTellsSaid : Prop := fieldsTellsRow.holds Try.pinned (OpenSpec.ofChange fieldsTellsSpec)

/-- ITS FALSE NEIGHBOUR: 'it returns false'. Refute it at one input. -/
def fieldsTellsWrong : ChangeSpec := { name := "fieldsTells", fn := fun _ => fun
  | [d1, d2] => { results := [.lit (.bool false)], args := [d1, d2] }
  | _ => none }
def FieldsTellsWrongFalsely : Prop := fieldsTellsRow.holds Try.pinned (OpenSpec.ofChange fieldsTellsWrong)

/-- 'arboristlaw46.FieldsFields': WHATEVER THE INPUT: true; the input reads as it did. -/
def fieldsFieldsSpec : ChangeSpec := { name := "fieldsFields", fn := fun _ => fun
  | [d1, d2, d3] => { results := [.lit (.bool true)], args := [d1, d2, d3] }
  | _ => none }
def fieldsFieldsRow : OpenClaim := { program := "ytgdbcogbbghjaaa", sum := "834854f1ec5c842bebeb622453f851ed925f8564c15d3d254d85c2d04f8d09f0", func := "arborist/arboristlaw46.FieldsFields", spec := "fieldsFields", unfollowed := true, recurses := true, loops := true, apart := false }
def FieldsFieldsSaid : Prop := fieldsFieldsRow.holds Try.pinned (OpenSpec.ofChange fieldsFieldsSpec)

/-- ITS FALSE NEIGHBOUR: 'it returns false'. Refute it at one input. -/
def fieldsFieldsWrong : ChangeSpec := { name := "fieldsFields", fn := fun _ => fun
  | [d1, d2, d3] => { results := [.lit (.bool false)], args := [d1, d2, d3] }
  | _ => none }
def FieldsFieldsWrongFalsely : Prop := fieldsFieldsRow.holds Try.pinned (OpenSpec.ofChange fieldsFieldsWrong)

/-- 'arboristlaw46.FieldsAlong': WHATEVER THE INPUT: true; the input reads as it did. -/
def fieldsAlongSpec : ChangeSpec := { name := "fieldsAlong", fn := fun _ => fun
  | [d1, d2] => { results := [.lit (.bool true)], args := [d1, d2] }
  | _ => none }
def fieldsAlongRow : OpenClaim := { program := "ytgdbcogbbghjaaa", sum := "834854f1ec5c842bebeb622453f851ed925f8564c15d3d254d85c2d04f8d09f0", func := "arborist/arboristlaw46.FieldsAlong", spec := "fieldsAlong", unfollowed := true, recurses := true, loops := true, apart := false }
def FieldsAlongSaid : Prop := fieldsAlongRow.holds Try.pinned (OpenSpec.ofChange fieldsAlongSpec)

/-- ITS FALSE NEIGHBOUR: 'it returns false'. Refute it at one input. -/
def fieldsAlongWrong : ChangeSpec := { name := "fieldsAlong", fn := fun _ => fun
  | [d1, d2] => { results := [.lit (.bool false)], args := [d1, d2] }
  | _ => none }
def FieldsAlongWrongFalsely : Prop := fieldsAlongRow.holds Try.pinned (OpenSpec.ofChange fieldsAlongWrong)

/-- 'arboristlaw46.FieldsAll': WHATEVER THE INPUT: true; the input reads as it did. -/
def fieldsAllSpec : ChangeSpec := { name := "fieldsAll", fn := fun _ => fun
  | [d1, d2] => { results := [.lit (.bool true)], args := [d1, d2] }
  | _ => none }
def fieldsAllRow : OpenClaim := { program := "ytgdbcogbbghjaaa", sum := "834854f1ec5c842bebeb622453f851ed925f8564c15d3d254d85c2d04f8d09f0", func := "arborist/arboristlaw46.FieldsAll", spec := "fieldsAll", unfollowed := true, recurses := true, loops := true, apart := false }
def FieldsAllSaid : Prop := fieldsAllRow.holds Try.pinned (OpenSpec.ofChange fieldsAllSpec)

/-- ITS FALSE NEIGHBOUR: 'it returns false'. Refute it at one input. -/
def fieldsAllWrong : ChangeSpec := { name := "fieldsAll", fn := fun _ => fun
  | [d1, d2] => { results := [.lit (.bool false)], args := [d1, d2] }
  | _ => none }
def FieldsAllWrongFalsely : Prop := fieldsAllRow.holds Try.pinned (OpenSpec.ofChange fieldsAllWrong)

/-- 'arboristlaw46.FieldsGets': WHATEVER THE INPUT: true; the input reads as it did. -/
def fieldsGetsSpec : ChangeSpec := { name := "fieldsGets", fn := fun _ => fun
  | [d1, d2] => { results := [.lit (.bool true)], args := [d1, d2] }
  | _ => none }
def fieldsGetsRow : OpenClaim := { program := "ytgdbcogbbghjaaa", sum := "834854f1ec5c842bebeb622453f851ed925f8564c15d3d254d85c2d04f8d09f0", func := "arborist/arboristlaw46.FieldsGets", spec := "fieldsGets", unfollowed := true, recurses := true, loops := true, apart := false }
def FieldsGetsSaid : Prop := fieldsGetsRow.holds Try.pinned (OpenSpec.ofChange fieldsGetsSpec)

/-- ITS FALSE NEIGHBOUR: 'it returns false'. Refute it at one input. -/
def fieldsGetsWrong : ChangeSpec := { name := "fieldsGets", fn := fun _ => fun
  | [d1, d2] => { results := [.lit (.bool false)], args := [d1, d2] }
  | _ => none }
def FieldsGetsWrongFalsely : Prop := fieldsGetsRow.holds Try.pinned (OpenSpec.ofChange fieldsGetsWrong)

/- THE SECOND FORM. 'bulk': how many values and letters a reading holds, each counted each time it is reached (what is shared counts as often as it is met; a slice's spare places count too). A statement '..UptoSaid' is the law's where the arguments, and the package variables that the reading takes, are together of bulk at most 1048576: NARROWER than '..Said'. Prove '..Said' where nothing that the law and all that it calls make is longer than what came in: it says more and counts as full. Else prove '..UptoSaid'. A law counts once. -/
mutual
def uptoBulk {H : Type} : DataW H → Nat
  | .lit (.string bytes) => bytes.length + 1
  | .lit _ => 1
  | .nil => 1
  | .ptr d => uptoBulk d + 1
  | .slice elems spare => uptoBulkAll elems + uptoBulkAll spare + 1
  | .agg parts => uptoBulkAll parts + 1
  | .iface _ d => uptoBulk d + 1
  | .map entries => uptoBulkEntries entries + 1
  | .held _ => 1
def uptoBulkAll {H : Type} : List (DataW H) → Nat
  | [] => 0
  | d :: r => uptoBulk d + uptoBulkAll r
def uptoBulkEntries {H : Type} : List (Lit × DataW H) → Nat
  | [] => 0
  | x :: r => uptoBulkEntry x + uptoBulkEntries r
def uptoBulkEntry {H : Type} : Lit × DataW H → Nat
  | (.string bytes, d) => bytes.length + uptoBulk d + 1
  | (_, d) => uptoBulk d + 1
 end
def uptoSmall : (H : Type) → List (DataW H) → Bool := fun _ ds => decide (uptoBulkAll ds ≤ 1048576)
def OpenSpec.upto (s : _root_.Go.ChangeSpec) : _root_.Go.OpenSpec := { _root_.Go.OpenSpec.ofChange s with cond := some uptoSmall }

/-- 'arboristlaw46.FieldsTells', WHERE WHAT IT READS IS OF BULK AT MOST 1048576: true; the input reads as it did. -/
def fieldsTellsUptoRow : OpenClaim := { program := "ytgdbcogbbghjaaa", sum := "834854f1ec5c842bebeb622453f851ed925f8564c15d3d254d85c2d04f8d09f0", func := "arborist/arboristlaw46.FieldsTells", spec := "fieldsTells", unfollowed := true, recurses := true, loops := true, apart := false, narrowed := true }
def FieldsTellsUptoSaid : Prop := fieldsTellsUptoRow.holds Try.pinned (OpenSpec.upto fieldsTellsSpec)

/-- 'arboristlaw46.FieldsFields', WHERE WHAT IT READS IS OF BULK AT MOST 1048576: true; the input reads as it did. -/
def fieldsFieldsUptoRow : OpenClaim := { program := "ytgdbcogbbghjaaa", sum := "834854f1ec5c842bebeb622453f851ed925f8564c15d3d254d85c2d04f8d09f0", func := "arborist/arboristlaw46.FieldsFields", spec := "fieldsFields", unfollowed := true, recurses := true, loops := true, apart := false, narrowed := true }
def FieldsFieldsUptoSaid : Prop := fieldsFieldsUptoRow.holds Try.pinned (OpenSpec.upto fieldsFieldsSpec)

/-- 'arboristlaw46.FieldsAlong', WHERE WHAT IT READS IS OF BULK AT MOST 1048576: true; the input reads as it did. -/
def fieldsAlongUptoRow : OpenClaim := { program := "ytgdbcogbbghjaaa", sum := "834854f1ec5c842bebeb622453f851ed925f8564c15d3d254d85c2d04f8d09f0", func := "arborist/arboristlaw46.FieldsAlong", spec := "fieldsAlong", unfollowed := true, recurses := true, loops := true, apart := false, narrowed := true }
def FieldsAlongUptoSaid : Prop := fieldsAlongUptoRow.holds Try.pinned (OpenSpec.upto fieldsAlongSpec)

/-- 'arboristlaw46.FieldsAll', WHERE WHAT IT READS IS OF BULK AT MOST 1048576: true; the input reads as it did. -/
def fieldsAllUptoRow : OpenClaim := { program := "ytgdbcogbbghjaaa", sum := "834854f1ec5c842bebeb622453f851ed925f8564c15d3d254d85c2d04f8d09f0", func := "arborist/arboristlaw46.FieldsAll", spec := "fieldsAll", unfollowed := true, recurses := true, loops := true, apart := false, narrowed := true }
def FieldsAllUptoSaid : Prop := fieldsAllUptoRow.holds Try.pinned (OpenSpec.upto fieldsAllSpec)

/-- 'arboristlaw46.FieldsGets', WHERE WHAT IT READS IS OF BULK AT MOST 1048576: true; the input reads as it did. -/
def fieldsGetsUptoRow : OpenClaim := { program := "ytgdbcogbbghjaaa", sum := "834854f1ec5c842bebeb622453f851ed925f8564c15d3d254d85c2d04f8d09f0", func := "arborist/arboristlaw46.FieldsGets", spec := "fieldsGets", unfollowed := true, recurses := true, loops := true, apart := false, narrowed := true }
def FieldsGetsUptoSaid : Prop := fieldsGetsUptoRow.holds Try.pinned (OpenSpec.upto fieldsGetsSpec)

end Rows
end Go.Proofs.Ytgdbcogbbghjaaa
