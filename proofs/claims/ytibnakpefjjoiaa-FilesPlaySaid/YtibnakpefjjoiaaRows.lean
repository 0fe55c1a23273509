/-
  No cell of these rows narrows 'for every input' (looked for: loops, veiled, ifaces, maps, wideKeys, modest, calm, conditions, laid).
  DERIVED. THE GIVEN ROWS OF THIS SEAT. 6 by the template 'for every input the law returns true; each argument reads behind the call as it read before'; 0 by the template 'total and deterministic' (their statements: YtibnakpefjjoiaaTotals.lean).
  GIVEN WITH THE SEED: the statements are not yours to turn. If you find one false, say at which input.
  Laid BY PROGRAM, IN A SANDBOX (cutbox-rows.mjs): the forced cells as the released guide's own fill.sh prints them over the translation 08a9e9243bc25f7a… (all of the seat's roots in one cut). By AI agents, Wed Nov 11 2026. No macro, syntax, notation, axiom, sorry.
-/
import Derived.Test.YtibnakpefjjoiaaChecked
import GoSem.Claim
import GoSem.ClaimJoined
import GoSem.ClaimMapViews
import Derived.JoinedTies
import Derived.KernelRfl
namespace Go.Proofs.Ytibnakpefjjoiaa
/- THE CELL 'sum', in the pinned program and in every row, IS THE sha256 OF THE DUMP (.gsa) THAT YtibnakpefjjoiaaProg.lean LOADS. Nothing in Lean hashes anything: it is a label: what it is worth is what the hold of that sum in a sandbox is worth. -/
noncomputable def Try.pinned : Pinned := { name := "ytibnakpefjjoiaa", sum := "08a9e9243bc25f7a4920cc1cbdfb57726d512463f0f684eca8abece9f18ef83f", checked := Try.checked }
namespace Rows
def none {H : Type} : Left H := { results := [], args := [] }

/-- 'tocsinlaw03.FilesPieces': WHATEVER THE INPUT: true; the input reads as it did. -/
def filesPiecesSpec : ChangeSpec := { name := "filesPieces", fn := fun _ => fun
  | [d1, d2] => { results := [.lit (.bool true)], args := [d1, d2] }
  | _ => none }
def filesPiecesRow : OpenClaim := { program := "ytibnakpefjjoiaa", sum := "08a9e9243bc25f7a4920cc1cbdfb57726d512463f0f684eca8abece9f18ef83f", func := "tocsin/tocsinlaw03.FilesPieces", spec := "filesPieces", unfollowed := true, recurses := true, apart := false }
def FilesPiecesSaid : Prop := filesPiecesRow.holds Try.pinned (OpenSpec.ofChange filesPiecesSpec)

/-- ITS FALSE NEIGHBOUR: 'it returns false'. Refute it at one input. -/
def filesPiecesWrong : ChangeSpec := { name := "filesPieces", fn := fun _ => fun
  | [d1, d2] => { results := [.lit (.bool false)], args := [d1, d2] }
  | _ => none }
def FilesPiecesWrongFalsely : Prop := filesPiecesRow.holds Try.pinned (OpenSpec.ofChange filesPiecesWrong)

/-- 'tocsinlaw03.FilesLong': WHATEVER THE INPUT: true; the input reads as it did. -/
def filesLongSpec : ChangeSpec := { name := "filesLong", fn := fun _ => fun
  | [d1, d2, d3] => { results := [.lit (.bool true)], args := [d1, d2, d3] }
  | _ => none }
def filesLongRow : OpenClaim := { program := "ytibnakpefjjoiaa", sum := "08a9e9243bc25f7a4920cc1cbdfb57726d512463f0f684eca8abece9f18ef83f", func := "tocsin/tocsinlaw03.FilesLong", spec := "filesLong", unfollowed := true, recurses := true, apart := false }
def FilesLongSaid : Prop := filesLongRow.holds Try.pinned (OpenSpec.ofChange filesLongSpec)

/-- ITS FALSE NEIGHBOUR: 'it returns false'. Refute it at one input. -/
def filesLongWrong : ChangeSpec := { name := "filesLong", fn := fun _ => fun
  | [d1, d2, d3] => { results := [.lit (.bool false)], args := [d1, d2, d3] }
  | _ => none }
def FilesLongWrongFalsely : Prop := filesLongRow.holds Try.pinned (OpenSpec.ofChange filesLongWrong)

/-- 'tocsinlaw03.FilesEnds': WHATEVER THE INPUT: true; the input reads as it did. -/
def filesEndsSpec : ChangeSpec := { name := "filesEnds", fn := fun _ => fun
  | [d1, d2, d3] => { results := [.lit (.bool true)], args := [d1, d2, d3] }
  | _ => none }
def filesEndsRow : OpenClaim := { program := "ytibnakpefjjoiaa", sum := "08a9e9243bc25f7a4920cc1cbdfb57726d512463f0f684eca8abece9f18ef83f", func := "tocsin/tocsinlaw03.FilesEnds", spec := "filesEnds", unfollowed := true, recurses := true, apart := false }
def FilesEndsSaid : Prop := filesEndsRow.holds Try.pinned (OpenSpec.ofChange filesEndsSpec)

/-- ITS FALSE NEIGHBOUR: 'it returns false'. Refute it at one input. -/
def filesEndsWrong : ChangeSpec := { name := "filesEnds", fn := fun _ => fun
  | [d1, d2, d3] => { results := [.lit (.bool false)], args := [d1, d2, d3] }
  | _ => none }
def FilesEndsWrongFalsely : Prop := filesEndsRow.holds Try.pinned (OpenSpec.ofChange filesEndsWrong)

/-- 'tocsinlaw03.FilesCrash': WHATEVER THE INPUT: true; the input reads as it did. -/
def filesCrashSpec : ChangeSpec := { name := "filesCrash", fn := fun _ => fun
  | [d1, d2] => { results := [.lit (.bool true)], args := [d1, d2] }
  | _ => none }
def filesCrashRow : OpenClaim := { program := "ytibnakpefjjoiaa", sum := "08a9e9243bc25f7a4920cc1cbdfb57726d512463f0f684eca8abece9f18ef83f", func := "tocsin/tocsinlaw03.FilesCrash", spec := "filesCrash", unfollowed := true, recurses := true, apart := false }
def FilesCrashSaid : Prop := filesCrashRow.holds Try.pinned (OpenSpec.ofChange filesCrashSpec)

/-- ITS FALSE NEIGHBOUR: 'it returns false'. Refute it at one input. -/
def filesCrashWrong : ChangeSpec := { name := "filesCrash", fn := fun _ => fun
  | [d1, d2] => { results := [.lit (.bool false)], args := [d1, d2] }
  | _ => none }
def FilesCrashWrongFalsely : Prop := filesCrashRow.holds Try.pinned (OpenSpec.ofChange filesCrashWrong)

/-- 'tocsinlaw03.FilesPlay': WHATEVER THE INPUT: true; the input reads as it did. -/
def filesPlaySpec : ChangeSpec := { name := "filesPlay", fn := fun _ => fun
  | [d1, d2] => { results := [.lit (.bool true)], args := [d1, d2] }
  | _ => none }
def filesPlayRow : OpenClaim := { program := "ytibnakpefjjoiaa", sum := "08a9e9243bc25f7a4920cc1cbdfb57726d512463f0f684eca8abece9f18ef83f", func := "tocsin/tocsinlaw03.FilesPlay", spec := "filesPlay", unfollowed := true, recurses := true, apart := false }
def FilesPlaySaid : Prop := filesPlayRow.holds Try.pinned (OpenSpec.ofChange filesPlaySpec)

/-- ITS FALSE NEIGHBOUR: 'it returns false'. Refute it at one input. -/
def filesPlayWrong : ChangeSpec := { name := "filesPlay", fn := fun _ => fun
  | [d1, d2] => { results := [.lit (.bool false)], args := [d1, d2] }
  | _ => none }
def FilesPlayWrongFalsely : Prop := filesPlayRow.holds Try.pinned (OpenSpec.ofChange filesPlayWrong)

/-- 'tocsinlaw03.FilesNil': WHATEVER THE INPUT: true; the input reads as it did. -/
def filesNilSpec : ChangeSpec := { name := "filesNil", fn := fun _ => fun
  | [d] => { results := [.lit (.bool true)], args := [d] }
  | _ => none }
def filesNilRow : OpenClaim := { program := "ytibnakpefjjoiaa", sum := "08a9e9243bc25f7a4920cc1cbdfb57726d512463f0f684eca8abece9f18ef83f", func := "tocsin/tocsinlaw03.FilesNil", spec := "filesNil", unfollowed := true, recurses := true, apart := false }
def FilesNilSaid : Prop := filesNilRow.holds Try.pinned (OpenSpec.ofChange filesNilSpec)

/-- ITS FALSE NEIGHBOUR: 'it returns false'. Refute it at one input. -/
def filesNilWrong : ChangeSpec := { name := "filesNil", fn := fun _ => fun
  | [d] => { results := [.lit (.bool false)], args := [d] }
  | _ => none }
def FilesNilWrongFalsely : Prop := filesNilRow.holds Try.pinned (OpenSpec.ofChange filesNilWrong)

/- THE SECOND FORM. 'bulk': how many values and letters a reading holds, each counted each time it is reached (what is shared counts as often as it is met; a slice's spare places count too). A statement '..UptoSaid' is the law's where the arguments, and the package variables that the reading takes, are together of bulk at most 1048576: NARROWER than '..Said'. Prove '..Said' where nothing that the law and all that it calls make is longer than what came in: it says more and counts as full. Else prove '..UptoSaid'. A law counts once. -/
mutual
def uptoBulk {H : Type} : DataW H → Nat
  | .lit (.string bytes) => bytes.length + 1
  | .lit _ => 1
  | .nil => 1
  | .ptr d => uptoBulk d + 1
  | .slice elems spare => uptoBulkAll elems + uptoBulkAll spare + 1
  | .agg parts => uptoBulkAll parts + 1
  | .iface _ d => uptoBulk d + 1
  | .map entries => uptoBulkEntries entries + 1
  | .held _ => 1
def uptoBulkAll {H : Type} : List (DataW H) → Nat
  | [] => 0
  | d :: r => uptoBulk d + uptoBulkAll r
def uptoBulkEntries {H : Type} : List (Lit × DataW H) → Nat
  | [] => 0
  | x :: r => uptoBulkEntry x + uptoBulkEntries r
def uptoBulkEntry {H : Type} : Lit × DataW H → Nat
  | (.string bytes, d) => bytes.length + uptoBulk d + 1
  | (_, d) => uptoBulk d + 1
 end
def uptoSmall : (H : Type) → List (DataW H) → Bool := fun _ ds => decide (uptoBulkAll ds ≤ 1048576)
def OpenSpec.upto (s : _root_.Go.ChangeSpec) : _root_.Go.OpenSpec := { _root_.Go.OpenSpec.ofChange s with cond := some uptoSmall }

/-- 'tocsinlaw03.FilesPieces', WHERE WHAT IT READS IS OF BULK AT MOST 1048576: true; the input reads as it did. -/
def filesPiecesUptoRow : OpenClaim := { program := "ytibnakpefjjoiaa", sum := "08a9e9243bc25f7a4920cc1cbdfb57726d512463f0f684eca8abece9f18ef83f", func := "tocsin/tocsinlaw03.FilesPieces", spec := "filesPieces", unfollowed := true, recurses := true, apart := false, narrowed := true }
def FilesPiecesUptoSaid : Prop := filesPiecesUptoRow.holds Try.pinned (OpenSpec.upto filesPiecesSpec)

/-- 'tocsinlaw03.FilesLong', WHERE WHAT IT READS IS OF BULK AT MOST 1048576: true; the input reads as it did. -/
def filesLongUptoRow : OpenClaim := { program := "ytibnakpefjjoiaa", sum := "08a9e9243bc25f7a4920cc1cbdfb57726d512463f0f684eca8abece9f18ef83f", func := "tocsin/tocsinlaw03.FilesLong", spec := "filesLong", unfollowed := true, recurses := true, apart := false, narrowed := true }
def FilesLongUptoSaid : Prop := filesLongUptoRow.holds Try.pinned (OpenSpec.upto filesLongSpec)

/-- 'tocsinlaw03.FilesEnds', WHERE WHAT IT READS IS OF BULK AT MOST 1048576: true; the input reads as it did. -/
def filesEndsUptoRow : OpenClaim := { program := "ytibnakpefjjoiaa", sum := "08a9e9243bc25f7a4920cc1cbdfb57726d512463f0f684eca8abece9f18ef83f", func := "tocsin/tocsinlaw03.FilesEnds", spec := "filesEnds", unfollowed := true, recurses := true, apart := false, narrowed := true }
def FilesEndsUptoSaid : Prop := filesEndsUptoRow.holds Try.pinned (OpenSpec.upto filesEndsSpec)

/-- 'tocsinlaw03.FilesCrash', WHERE WHAT IT READS IS OF BULK AT MOST 1048576: true; the input reads as it did. -/
def filesCrashUptoRow : OpenClaim := { program := "ytibnakpefjjoiaa", sum := "08a9e9243bc25f7a4920cc1cbdfb57726d512463f0f684eca8abece9f18ef83f", func := "tocsin/tocsinlaw03.FilesCrash", spec := "filesCrash", unfollowed := true, recurses := true, apart := false, narrowed := true }
def FilesCrashUptoSaid : Prop := filesCrashUptoRow.holds Try.pinned (OpenSpec.upto filesCrashSpec)

/-- 'tocsinlaw03.FilesPlay', WHERE WHAT IT READS IS OF BULK AT MOST 1048576: true; the input reads as it did. -/
def filesPlayUptoRow : OpenClaim := { program := "ytibnakpefjjoiaa", sum := "08a9e9243bc25f7a4920cc1cbdfb57726d512463f0f684eca8abece9f18ef83f", func := "tocsin/tocsinlaw03.FilesPlay", spec := "filesPlay", unfollowed := true, recurses := true, apart := false, narrowed := true }
def FilesPlayUptoSaid : Prop := filesPlayUptoRow.holds Try.pinned (OpenSpec.upto filesPlaySpec)

/-- 'tocsinlaw03.FilesNil', WHERE WHAT IT READS IS OF BULK AT MOST 1048576: true; the input reads as it did. -/
def filesNilUptoRow : OpenClaim := { program := "ytibnakpefjjoiaa", sum := "08a9e9243bc25f7a4920cc1cbdfb57726d512463f0f684eca8abece9f18ef83f", func := "tocsin/tocsinlaw03.FilesNil", spec := "filesNil", unfollowed := true, recurses := true, apart := false, narrowed := true }
def FilesNilUptoSaid : Prop := filesNilUptoRow.holds Try.pinned (OpenSpec.upto filesNilSpec)

end Rows
end Go.Proofs.Ytibnakpefjjoiaa
