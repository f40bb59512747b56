/-
  NARROWER THAN 'FOR EVERY INPUT', by the rows' own cells (each row's printed sentence says how): CursorMoves: loops · CursorGets: loops · CursorBack: loops · CursorAll: loops.
  DERIVED. THE GIVEN ROWS OF THIS SEAT. 4 by the template 'for every input the law returns true; each argument reads behind the call as it read before'; 0 by the template 'total and deterministic' (their statements: YtfekpmbecoeijaaTotals.lean).
  GIVEN WITH THE SEED: the statements are not yours to turn. If you find one false, say at which input.
  Laid BY PROGRAM, IN A SANDBOX (cutbox-rows.mjs): the forced cells as the released guide's own fill.sh prints them over the translation 3f1d3e19c09becb4… (all of the seat's roots in one cut). By AI agents, Wed Nov 11 2026. No macro, syntax, notation, axiom, sorry.
-/
import Derived.Test.YtfekpmbecoeijaaChecked
import GoSem.Claim
import GoSem.ClaimJoined
import GoSem.ClaimMapViews
import Derived.JoinedTies
import Derived.KernelRfl
namespace Go.Proofs.Ytfekpmbecoeijaa
/- THE CELL 'sum', in the pinned program and in every row, IS THE sha256 OF THE DUMP (.gsa) THAT YtfekpmbecoeijaaProg.lean LOADS. Nothing in Lean hashes anything: it is a label: what it is worth is what the hold of that sum in a sandbox is worth. -/
noncomputable def Try.pinned : Pinned := { name := "ytfekpmbecoeijaa", sum := "3f1d3e19c09becb4f7c6bcc59bb6d136d51a93b4b8c7fb051227e7091b8b210f", checked := Try.checked }
namespace Rows
def none {H : Type} : Left H := { results := [], args := [] }

/-- 'arboristlaw45.CursorMoves': WHATEVER THE INPUT: true; the input reads as it did. -/
def cursorMovesSpec : ChangeSpec := { name := "cursorMoves", fn := fun _ => fun
  | [d1, d2] => { results := [.lit (.bool true)], args := [d1, d2] }
  | _ => none }
def cursorMovesRow : OpenClaim := { program := "ytfekpmbecoeijaa", sum := "3f1d3e19c09becb4f7c6bcc59bb6d136d51a93b4b8c7fb051227e7091b8b210f", func := "arborist/arboristlaw45.CursorMoves", spec := "cursorMoves", unfollowed := true, recurses := true, loops := true, apart := false }
def CursorMovesSaid : Prop := cursorMovesRow.holds Try.pinned (OpenSpec.ofChange cursorMovesSpec)

/-- ITS FALSE NEIGHBOUR: 'it returns false'. Refute it at one input. -/
def cursorMovesWrong : ChangeSpec := { name := "cursorMoves", fn := fun _ => fun
  | [d1, d2] => { results := [.lit (.bool false)], args := [d1, d2] }
  | _ => none }
def CursorMovesWrongFalsely : Prop := cursorMovesRow.holds Try.pinned (OpenSpec.ofChange cursorMovesWrong)

/-- 'arboristlaw45.CursorGets': WHATEVER THE INPUT: true; the input reads as it did. -/
def cursorGetsSpec : ChangeSpec := { name := "cursorGets", fn := fun _ => fun
  | [d1, d2] => { results := [.lit (.bool true)], args := [d1, d2] }
  | _ => none }
def cursorGetsRow : OpenClaim := { program := "ytfekpmbecoeijaa", sum := "3f1d3e19c09becb4f7c6bcc59bb6d136d51a93b4b8c7fb051227e7091b8b210f", func := "arborist/arboristlaw45.CursorGets", spec := "cursorGets", unfollowed := true, recurses := true, loops := true, apart := false }
def CursorGetsSaid : Prop := cursorGetsRow.holds Try.pinned (OpenSpec.ofChange cursorGetsSpec)

/-- ITS FALSE NEIGHBOUR: 'it returns false'. Refute it at one input. -/
def cursorGetsWrong : ChangeSpec := { name := "cursorGets", fn := fun _ => fun
  | [d1, d2] => { results := [.lit (.bool false)], args := [d1, d2] }
  | _ => none }
def CursorGetsWrongFalsely : Prop := cursorGetsRow.holds Try.pinned (OpenSpec.ofChange cursorGetsWrong)

/-- 'arboristlaw45.CursorBack': WHATEVER THE INPUT: true; the input reads as it did. -/
def cursorBackSpec : ChangeSpec := { name := "cursorBack", fn := fun _ => fun
  | [d1, d2, d3] => { results := [.lit (.bool true)], args := [d1, d2, d3] }
  | _ => none }
def cursorBackRow : OpenClaim := { program := "ytfekpmbecoeijaa", sum := "3f1d3e19c09becb4f7c6bcc59bb6d136d51a93b4b8c7fb051227e7091b8b210f", func := "arborist/arboristlaw45.CursorBack", spec := "cursorBack", unfollowed := true, recurses := true, loops := true, apart := false }
def CursorBackSaid : Prop := cursorBackRow.holds Try.pinned (OpenSpec.ofChange cursorBackSpec)

/-- ITS FALSE NEIGHBOUR: 'it returns false'. Refute it at one input. -/
def cursorBackWrong : ChangeSpec := { name := "cursorBack", fn := fun _ => fun
  | [d1, d2, d3] => { results := [.lit (.bool false)], args := [d1, d2, d3] }
  | _ => none }
def CursorBackWrongFalsely : Prop := cursorBackRow.holds Try.pinned (OpenSpec.ofChange cursorBackWrong)

/-- 'arboristlaw45.CursorAll': WHATEVER THE INPUT: true; the input reads as it did. -/
def cursorAllSpec : ChangeSpec := { name := "cursorAll", fn := fun _ => fun
  | [d] => { results := [.lit (.bool true)], args := [d] }
  | _ => none }
def cursorAllRow : OpenClaim := { program := "ytfekpmbecoeijaa", sum := "3f1d3e19c09becb4f7c6bcc59bb6d136d51a93b4b8c7fb051227e7091b8b210f", func := "arborist/arboristlaw45.CursorAll", spec := "cursorAll", unfollowed := true, recurses := true, loops := true, apart := false }
def CursorAllSaid : Prop := cursorAllRow.holds Try.pinned (OpenSpec.ofChange cursorAllSpec)

/-- ITS FALSE NEIGHBOUR: 'it returns false'. Refute it at one input. -/
def cursorAllWrong : ChangeSpec := { name := "cursorAll", fn := fun _ => fun
  | [d] => { results := [.lit (.bool false)], args := [d] }
  | _ => none }
def CursorAllWrongFalsely : Prop := cursorAllRow.holds Try.pinned (OpenSpec.ofChange cursorAllWrong)

/- THE SECOND FORM. 'bulk': how many values and letters a reading holds, each counted each time it is reached (what is shared counts as often as it is met; a slice's spare places count too). A statement '..UptoSaid' is the law's where the arguments, and the package variables that the reading takes, are together of bulk at most 1048576: NARROWER than '..Said'. Prove '..Said' where nothing that the law and all that it calls make is longer than what came in: it says more and counts as full. Else prove '..UptoSaid'. A law counts once. -/
mutual
def uptoBulk {H : Type} : DataW H → Nat
  | .lit (.string bytes) => bytes.length + 1
  | .lit _ => 1
  | .nil => 1
  | .ptr d => uptoBulk d + 1
  | .slice elems spare => uptoBulkAll elems + uptoBulkAll spare + 1
  | .agg parts => uptoBulkAll parts + 1
  | .iface _ d => uptoBulk d + 1
  | .map entries => uptoBulkEntries entries + 1
  | .held _ => 1
def uptoBulkAll {H : Type} : List (DataW H) → Nat
  | [] => 0
  | d :: r => uptoBulk d + uptoBulkAll r
def uptoBulkEntries {H : Type} : List (Lit × DataW H) → Nat
  | [] => 0
  | x :: r => uptoBulkEntry x + uptoBulkEntries r
def uptoBulkEntry {H : Type} : Lit × DataW H → Nat
  | (.string bytes, d) => bytes.length + uptoBulk d + 1
  | (_, d) => uptoBulk d + 1
 end
def uptoSmall : (H : Type) → List (DataW H) → Bool := fun _ ds => decide (uptoBulkAll ds ≤ 1048576)
def OpenSpec.upto (s : _root_.Go.ChangeSpec) : _root_.Go.OpenSpec := { _root_.Go.OpenSpec.ofChange s with cond := some uptoSmall }

/-- 'arboristlaw45.CursorMoves', WHERE WHAT IT READS IS OF BULK AT MOST 1048576: true; the input reads as it did. -/
def cursorMovesUptoRow : OpenClaim := { program := "ytfekpmbecoeijaa", sum := "3f1d3e19c09becb4f7c6bcc59bb6d136d51a93b4b8c7fb051227e7091b8b210f", func := "arborist/arboristlaw45.CursorMoves", spec := "cursorMoves", unfollowed := true, recurses := true, loops := true, apart := false, narrowed := true }
def CursorMovesUptoSaid : Prop := cursorMovesUptoRow.holds Try.pinned (OpenSpec.upto cursorMovesSpec)

/-- 'arboristlaw45.CursorGets', WHERE WHAT IT READS IS OF BULK AT MOST 1048576: true; the input reads as it did. -/
def cursorGetsUptoRow : OpenClaim := { program := "ytfekpmbecoeijaa", sum := "3f1d3e19c09becb4f7c6bcc59bb6d136d51a93b4b8c7fb051227e7091b8b210f", func := "arborist/arboristlaw45.CursorGets", spec := "cursorGets", unfollowed := true, recurses := true, loops := true, apart := false, narrowed := true }
def CursorGetsUptoSaid : Prop := cursorGetsUptoRow.holds Try.pinned (OpenSpec.upto cursorGetsSpec)

/-- 'arboristlaw45.CursorBack', WHERE WHAT IT READS IS OF BULK AT MOST 1048576: true; the input reads as it did. -/
def cursorBackUptoRow : OpenClaim := { program := "ytfekpmbecoeijaa", sum := "3f1d3e19c09becb4f7c6bcc59bb6d136d51a93b4b8c7fb051227e7091b8b210f", func := "arborist/arboristlaw45.CursorBack", spec := "cursorBack", unfollowed := true, recurses := true, loops := true, apart := false, narrowed := true }
def CursorBackUptoSaid : Prop := cursorBackUptoRow.holds Try.pinned (OpenSpec.upto cursorBackSpec)

/-- 'arboristlaw45.CursorAll', WHERE WHAT IT READS IS OF BULK AT MOST 1048576: true; the input reads as it did. -/
def cursorAllUptoRow : OpenClaim := { program := "ytfekpmbecoeijaa", sum := "3f1d3e19c09becb4f7c6bcc59bb6d136d51a93b4b8c7fb051227e7091b8b210f", func := "arborist/arboristlaw45.CursorAll", spec := "cursorAll", unfollowed := true, recurses := true, loops := true, apart := false, narrowed := true }
def CursorAllUptoSaid : Prop := cursorAllUptoRow.holds Try.pinned (OpenSpec.upto cursorAllSpec)

end Rows
end Go.Proofs.Ytfekpmbecoeijaa
