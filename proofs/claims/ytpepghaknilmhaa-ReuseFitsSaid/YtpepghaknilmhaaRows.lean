/-
  NARROWER THAN 'FOR EVERY INPUT', by the rows' own cells (each row's printed sentence says how): ReuseParts: loops · ReuseFits: loops · ReuseBytes: loops.
  DERIVED. THE GIVEN ROWS OF THIS SEAT. 3 by the template 'for every input the law returns true; each argument reads behind the call as it read before'; 0 by the template 'total and deterministic' (their statements: YtpepghaknilmhaaTotals.lean).
  GIVEN WITH THE SEED: the statements are not yours to turn. If you find one false, say at which input.
  Laid BY PROGRAM, IN A SANDBOX (cutbox-rows.mjs): the forced cells as the released guide's own fill.sh prints them over the translation 46eb59ac36e6d6f1… (all of the seat's roots in one cut). By AI agents, Wed Nov 11 2026. No macro, syntax, notation, axiom, sorry.
-/
import Derived.Test.YtpepghaknilmhaaChecked
import GoSem.Claim
import GoSem.ClaimJoined
import GoSem.ClaimMapViews
import Derived.JoinedTies
import Derived.KernelRfl
namespace Go.Proofs.Ytpepghaknilmhaa
/- THE CELL 'sum', in the pinned program and in every row, IS THE sha256 OF THE DUMP (.gsa) THAT YtpepghaknilmhaaProg.lean LOADS. Nothing in Lean hashes anything: it is a label: what it is worth is what the hold of that sum in a sandbox is worth. -/
noncomputable def Try.pinned : Pinned := { name := "ytpepghaknilmhaa", sum := "46eb59ac36e6d6f1fbdb4ff0752c08e0d121b671f1949765618cd3148a66ecd0", checked := Try.checked }
namespace Rows
def none {H : Type} : Left H := { results := [], args := [] }

/-- 'arboristlaw50.ReuseParts': WHATEVER THE INPUT: true; the input reads as it did. -/
def reusePartsSpec : ChangeSpec := { name := "reuseParts", fn := fun _ => fun
  | [d1, d2, d3] => { results := [.lit (.bool true)], args := [d1, d2, d3] }
  | _ => none }
def reusePartsRow : OpenClaim := { program := "ytpepghaknilmhaa", sum := "46eb59ac36e6d6f1fbdb4ff0752c08e0d121b671f1949765618cd3148a66ecd0", func := "arborist/arboristlaw50.ReuseParts", spec := "reuseParts", unfollowed := true, recurses := true, loops := true, apart := false }
def ReusePartsSaid : Prop := reusePartsRow.holds Try.pinned (OpenSpec.ofChange reusePartsSpec)

/-- ITS FALSE NEIGHBOUR: 'it returns false'. Refute it at one input. -/
def reusePartsWrong : ChangeSpec := { name := "reuseParts", fn := fun _ => fun
  | [d1, d2, d3] => { results := [.lit (.bool false)], args := [d1, d2, d3] }
  | _ => none }
def ReusePartsWrongFalsely : Prop := reusePartsRow.holds Try.pinned (OpenSpec.ofChange reusePartsWrong)

/-- 'arboristlaw50.ReuseFits': WHATEVER THE INPUT: true; the input reads as it did. -/
def reuseFitsSpec : ChangeSpec := { name := "reuseFits", fn := fun _ => fun
  | [d1, d2, d3] => { results := [.lit (.bool true)], args := [d1, d2, d3] }
  | _ => none }
def reuseFitsRow : OpenClaim := { program := "ytpepghaknilmhaa", sum := "46eb59ac36e6d6f1fbdb4ff0752c08e0d121b671f1949765618cd3148a66ecd0", func := "arborist/arboristlaw50.ReuseFits", spec := "reuseFits", unfollowed := true, recurses := true, loops := true, apart := false }
def ReuseFitsSaid : Prop := reuseFitsRow.holds Try.pinned (OpenSpec.ofChange reuseFitsSpec)

/-- ITS FALSE NEIGHBOUR: 'it returns false'. Refute it at one input. -/
def reuseFitsWrong : ChangeSpec := { name := "reuseFits", fn := fun _ => fun
  | [d1, d2, d3] => { results := [.lit (.bool false)], args := [d1, d2, d3] }
  | _ => none }
def ReuseFitsWrongFalsely : Prop := reuseFitsRow.holds Try.pinned (OpenSpec.ofChange reuseFitsWrong)

/-- 'arboristlaw50.ReuseBytes': WHATEVER THE INPUT: true; the input reads as it did. -/
def reuseBytesSpec : ChangeSpec := { name := "reuseBytes", fn := fun _ => fun
  | [d1, d2, d3] => { results := [.lit (.bool true)], args := [d1, d2, d3] }
  | _ => none }
def reuseBytesRow : OpenClaim := { program := "ytpepghaknilmhaa", sum := "46eb59ac36e6d6f1fbdb4ff0752c08e0d121b671f1949765618cd3148a66ecd0", func := "arborist/arboristlaw50.ReuseBytes", spec := "reuseBytes", unfollowed := true, recurses := true, loops := true, apart := false }
def ReuseBytesSaid : Prop := reuseBytesRow.holds Try.pinned (OpenSpec.ofChange reuseBytesSpec)

/-- ITS FALSE NEIGHBOUR: 'it returns false'. Refute it at one input. -/
def reuseBytesWrong : ChangeSpec := { name := "reuseBytes", fn := fun _ => fun
  | [d1, d2, d3] => { results := [.lit (.bool false)], args := [d1, d2, d3] }
  | _ => none }
def ReuseBytesWrongFalsely : Prop := reuseBytesRow.holds Try.pinned (OpenSpec.ofChange reuseBytesWrong)

/- THE SECOND FORM. 'bulk': how many values and letters a reading holds, each counted each time it is reached (what is shared counts as often as it is met; a slice's spare places count too). A statement '..UptoSaid' is the law's where the arguments, and the package variables that the reading takes, are together of bulk at most 1048576: NARROWER than '..Said'. Prove '..Said' where nothing that the law and all that it calls make is longer than what came in: it says more and counts as full. Else prove '..UptoSaid'. A law counts once. -/
mutual
def uptoBulk {H : Type} : DataW H → Nat
  | .lit (.string bytes) => bytes.length + 1
  | .lit _ => 1
  | .nil => 1
  | .ptr d => uptoBulk d + 1
  | .slice elems spare => uptoBulkAll elems + uptoBulkAll spare + 1
  | .agg parts => uptoBulkAll parts + 1
  | .iface _ d => uptoBulk d + 1
  | .map entries => uptoBulkEntries entries + 1
  | .held _ => 1
def uptoBulkAll {H : Type} : List (DataW H) → Nat
  | [] => 0
  | d :: r => uptoBulk d + uptoBulkAll r
def uptoBulkEntries {H : Type} : List (Lit × DataW H) → Nat
  | [] => 0
  | x :: r => uptoBulkEntry x + uptoBulkEntries r
def uptoBulkEntry {H : Type} : Lit × DataW H → Nat
  | (.string bytes, d) => bytes.length + uptoBulk d + 1
  | (_, d) => uptoBulk d + 1
 end
def uptoSmall : (H : Type) → List (DataW H) → Bool := fun _ ds => decide (uptoBulkAll ds ≤ 1048576)
def OpenSpec.upto (s : _root_.Go.ChangeSpec) : _root_.Go.OpenSpec := { _root_.Go.OpenSpec.ofChange s with cond := some uptoSmall }

/-- 'arboristlaw50.ReuseParts', WHERE WHAT IT READS IS OF BULK AT MOST 1048576: true; the input reads as it did. -/
def reusePartsUptoRow : OpenClaim := { program := "ytpepghaknilmhaa", sum := "46eb59ac36e6d6f1fbdb4ff0752c08e0d121b671f1949765618cd3148a66ecd0", func := "arborist/arboristlaw50.ReuseParts", spec := "reuseParts", unfollowed := true, recurses := true, loops := true, apart := false, narrowed := true }
def ReusePartsUptoSaid : Prop := reusePartsUptoRow.holds Try.pinned (OpenSpec.upto reusePartsSpec)

/-- 'arboristlaw50.ReuseFits', WHERE WHAT IT READS IS OF BULK AT MOST 1048576: true; the input reads as it did. -/
def reuseFitsUptoRow : OpenClaim := { program := "ytpepghaknilmhaa", sum := "46eb59ac36e6d6f1fbdb4ff0752c08e0d121b671f1949765618cd3148a66ecd0", func := "arborist/arboristlaw50.ReuseFits", spec := "reuseFits", unfollowed := true, recurses := true, loops := true, apart := false, narrowed := true }
def ReuseFitsUptoSaid : Prop := reuseFitsUptoRow.holds Try.pinned (OpenSpec.upto reuseFitsSpec)

/-- 'arboristlaw50.ReuseBytes', WHERE WHAT IT READS IS OF BULK AT MOST 1048576: true; the input reads as it did. -/
def reuseBytesUptoRow : OpenClaim := { program := "ytpepghaknilmhaa", sum := "46eb59ac36e6d6f1fbdb4ff0752c08e0d121b671f1949765618cd3148a66ecd0", func := "arborist/arboristlaw50.ReuseBytes", spec := "reuseBytes", unfollowed := true, recurses := true, loops := true, apart := false, narrowed := true }
def ReuseBytesUptoSaid : Prop := reuseBytesUptoRow.holds Try.pinned (OpenSpec.upto reuseBytesSpec)

end Rows
end Go.Proofs.Ytpepghaknilmhaa
