/-
  No cell of these rows narrows 'for every input' (looked for: loops, veiled, ifaces, maps, wideKeys, modest, calm, conditions, laid).
  DERIVED. THE GIVEN ROWS OF THIS SEAT. 5 by the template 'for every input the law returns true; each argument reads behind the call as it read before'; 0 by the template 'total and deterministic' (their statements: YtlhlaadnifkdhaaTotals.lean).
  GIVEN WITH THE SEED: the statements are not yours to turn. If you find one false, say at which input.
  Laid BY PROGRAM, IN A SANDBOX (cutbox-rows.mjs): the forced cells as the released guide's own fill.sh prints them over the translation a0d2aff70fa5225f… (all of the seat's roots in one cut). By AI agents, Wed Nov 11 2026. No macro, syntax, notation, axiom, sorry.
-/
import Derived.Test.YtlhlaadnifkdhaaChecked
import GoSem.Claim
import GoSem.ClaimJoined
import GoSem.ClaimMapViews
import Derived.JoinedTies
import Derived.KernelRfl
namespace Go.Proofs.Ytlhlaadnifkdhaa
/- THE CELL 'sum', in the pinned program and in every row, IS THE sha256 OF THE DUMP (.gsa) THAT YtlhlaadnifkdhaaProg.lean LOADS. Nothing in Lean hashes anything: it is a label: what it is worth is what the hold of that sum in a sandbox is worth. -/
noncomputable def Try.pinned : Pinned := { name := "ytlhlaadnifkdhaa", sum := "a0d2aff70fa5225f8503c5ffd601134d9be786d62e95e2c8ed4bf9f82e4b72c7", checked := Try.checked }
namespace Rows
def none {H : Type} : Left H := { results := [], args := [] }

/-- 'tocsinlaw17.SeriesRoom': WHATEVER THE INPUT: true; the input reads as it did. -/
def seriesRoomSpec : ChangeSpec := { name := "seriesRoom", fn := fun _ => fun
  | [d] => { results := [.lit (.bool true)], args := [d] }
  | _ => none }
def seriesRoomRow : OpenClaim := { program := "ytlhlaadnifkdhaa", sum := "a0d2aff70fa5225f8503c5ffd601134d9be786d62e95e2c8ed4bf9f82e4b72c7", func := "tocsin/tocsinlaw17.SeriesRoom", spec := "seriesRoom", inPlace := ["internal/abi.NoEscape", "internal/bytealg.MakeNoZero"], unfollowed := true, recurses := true, apart := false }
def SeriesRoomSaid : Prop := seriesRoomRow.holds Try.pinned (OpenSpec.ofChange seriesRoomSpec)

/-- ITS FALSE NEIGHBOUR: 'it returns false'. Refute it at one input. -/
def seriesRoomWrong : ChangeSpec := { name := "seriesRoom", fn := fun _ => fun
  | [d] => { results := [.lit (.bool false)], args := [d] }
  | _ => none }
def SeriesRoomWrongFalsely : Prop := seriesRoomRow.holds Try.pinned (OpenSpec.ofChange seriesRoomWrong)

/-- 'tocsinlaw17.SeriesPlays': WHATEVER THE INPUT: true; the input reads as it did. -/
def seriesPlaysSpec : ChangeSpec := { name := "seriesPlays", fn := fun _ => fun
  | [d1, d2, d3, d4] => { results := [.lit (.bool true)], args := [d1, d2, d3, d4] }
  | _ => none }
def seriesPlaysRow : OpenClaim := { program := "ytlhlaadnifkdhaa", sum := "a0d2aff70fa5225f8503c5ffd601134d9be786d62e95e2c8ed4bf9f82e4b72c7", func := "tocsin/tocsinlaw17.SeriesPlays", spec := "seriesPlays", inPlace := ["internal/abi.NoEscape", "internal/bytealg.MakeNoZero"], unfollowed := true, recurses := true, apart := false }
def SeriesPlaysSaid : Prop := seriesPlaysRow.holds Try.pinned (OpenSpec.ofChange seriesPlaysSpec)

/-- ITS FALSE NEIGHBOUR: 'it returns false'. Refute it at one input. -/
def seriesPlaysWrong : ChangeSpec := { name := "seriesPlays", fn := fun _ => fun
  | [d1, d2, d3, d4] => { results := [.lit (.bool false)], args := [d1, d2, d3, d4] }
  | _ => none }
def SeriesPlaysWrongFalsely : Prop := seriesPlaysRow.holds Try.pinned (OpenSpec.ofChange seriesPlaysWrong)

/-- 'tocsinlaw17.SeriesNil': WHATEVER THE INPUT: true; the input reads as it did. -/
def seriesNilSpec : ChangeSpec := { name := "seriesNil", fn := fun _ => fun
  | [d1, d2, d3] => { results := [.lit (.bool true)], args := [d1, d2, d3] }
  | _ => none }
def seriesNilRow : OpenClaim := { program := "ytlhlaadnifkdhaa", sum := "a0d2aff70fa5225f8503c5ffd601134d9be786d62e95e2c8ed4bf9f82e4b72c7", func := "tocsin/tocsinlaw17.SeriesNil", spec := "seriesNil", inPlace := ["internal/abi.NoEscape", "internal/bytealg.MakeNoZero"], unfollowed := true, recurses := true, apart := false }
def SeriesNilSaid : Prop := seriesNilRow.holds Try.pinned (OpenSpec.ofChange seriesNilSpec)

/-- ITS FALSE NEIGHBOUR: 'it returns false'. Refute it at one input. -/
def seriesNilWrong : ChangeSpec := { name := "seriesNil", fn := fun _ => fun
  | [d1, d2, d3] => { results := [.lit (.bool false)], args := [d1, d2, d3] }
  | _ => none }
def SeriesNilWrongFalsely : Prop := seriesNilRow.holds Try.pinned (OpenSpec.ofChange seriesNilWrong)

/-- 'tocsinlaw17.SeriesApart': WHATEVER THE INPUT: true; the input reads as it did. -/
def seriesApartSpec : ChangeSpec := { name := "seriesApart", fn := fun _ => fun
  | [d] => { results := [.lit (.bool true)], args := [d] }
  | _ => none }
def seriesApartRow : OpenClaim := { program := "ytlhlaadnifkdhaa", sum := "a0d2aff70fa5225f8503c5ffd601134d9be786d62e95e2c8ed4bf9f82e4b72c7", func := "tocsin/tocsinlaw17.SeriesApart", spec := "seriesApart", inPlace := ["internal/abi.NoEscape", "internal/bytealg.MakeNoZero"], unfollowed := true, recurses := true, apart := false }
def SeriesApartSaid : Prop := seriesApartRow.holds Try.pinned (OpenSpec.ofChange seriesApartSpec)

/-- ITS FALSE NEIGHBOUR: 'it returns false'. Refute it at one input. -/
def seriesApartWrong : ChangeSpec := { name := "seriesApart", fn := fun _ => fun
  | [d] => { results := [.lit (.bool false)], args := [d] }
  | _ => none }
def SeriesApartWrongFalsely : Prop := seriesApartRow.holds Try.pinned (OpenSpec.ofChange seriesApartWrong)

/-- 'tocsinlaw17.SeriesSelects': WHATEVER THE INPUT: true; the input reads as it did. -/
def seriesSelectsSpec : ChangeSpec := { name := "seriesSelects", fn := fun _ => fun
  | [d1, d2, d3, d4] => { results := [.lit (.bool true)], args := [d1, d2, d3, d4] }
  | _ => none }
def seriesSelectsRow : OpenClaim := { program := "ytlhlaadnifkdhaa", sum := "a0d2aff70fa5225f8503c5ffd601134d9be786d62e95e2c8ed4bf9f82e4b72c7", func := "tocsin/tocsinlaw17.SeriesSelects", spec := "seriesSelects", inPlace := ["internal/abi.NoEscape", "internal/bytealg.MakeNoZero"], unfollowed := true, recurses := true, apart := false }
def SeriesSelectsSaid : Prop := seriesSelectsRow.holds Try.pinned (OpenSpec.ofChange seriesSelectsSpec)

/-- ITS FALSE NEIGHBOUR: 'it returns false'. Refute it at one input. -/
def seriesSelectsWrong : ChangeSpec := { name := "seriesSelects", fn := fun _ => fun
  | [d1, d2, d3, d4] => { results := [.lit (.bool false)], args := [d1, d2, d3, d4] }
  | _ => none }
def SeriesSelectsWrongFalsely : Prop := seriesSelectsRow.holds Try.pinned (OpenSpec.ofChange seriesSelectsWrong)

/- THE SECOND FORM. 'bulk': how many values and letters a reading holds, each counted each time it is reached (what is shared counts as often as it is met; a slice's spare places count too). A statement '..UptoSaid' is the law's where the arguments, and the package variables that the reading takes, are together of bulk at most 1048576: NARROWER than '..Said'. Prove '..Said' where nothing that the law and all that it calls make is longer than what came in: it says more and counts as full. Else prove '..UptoSaid'. A law counts once. -/
mutual
def uptoBulk {H : Type} : DataW H → Nat
  | .lit (.string bytes) => bytes.length + 1
  | .lit _ => 1
  | .nil => 1
  | .ptr d => uptoBulk d + 1
  | .slice elems spare => uptoBulkAll elems + uptoBulkAll spare + 1
  | .agg parts => uptoBulkAll parts + 1
  | .iface _ d => uptoBulk d + 1
  | .map entries => uptoBulkEntries entries + 1
  | .held _ => 1
def uptoBulkAll {H : Type} : List (DataW H) → Nat
  | [] => 0
  | d :: r => uptoBulk d + uptoBulkAll r
def uptoBulkEntries {H : Type} : List (Lit × DataW H) → Nat
  | [] => 0
  | x :: r => uptoBulkEntry x + uptoBulkEntries r
def uptoBulkEntry {H : Type} : Lit × DataW H → Nat
  | (.string bytes, d) => bytes.length + uptoBulk d + 1
  | (_, d) => uptoBulk d + 1
 end
def uptoSmall : (H : Type) → List (DataW H) → Bool := fun _ ds => decide (uptoBulkAll ds ≤ 1048576)
def OpenSpec.upto (s : _root_.Go.ChangeSpec) : _root_.Go.OpenSpec := { _root_.Go.OpenSpec.ofChange s with cond := some uptoSmall }

/-- 'tocsinlaw17.SeriesRoom', WHERE WHAT IT READS IS OF BULK AT MOST 1048576: true; the input reads as it did. -/
def seriesRoomUptoRow : OpenClaim := { program := "ytlhlaadnifkdhaa", sum := "a0d2aff70fa5225f8503c5ffd601134d9be786d62e95e2c8ed4bf9f82e4b72c7", func := "tocsin/tocsinlaw17.SeriesRoom", spec := "seriesRoom", inPlace := ["internal/abi.NoEscape", "internal/bytealg.MakeNoZero"], unfollowed := true, recurses := true, apart := false, narrowed := true }
def SeriesRoomUptoSaid : Prop := seriesRoomUptoRow.holds Try.pinned (OpenSpec.upto seriesRoomSpec)

/-- 'tocsinlaw17.SeriesPlays', WHERE WHAT IT READS IS OF BULK AT MOST 1048576: true; the input reads as it did. -/
def seriesPlaysUptoRow : OpenClaim := { program := "ytlhlaadnifkdhaa", sum := "a0d2aff70fa5225f8503c5ffd601134d9be786d62e95e2c8ed4bf9f82e4b72c7", func := "tocsin/tocsinlaw17.SeriesPlays", spec := "seriesPlays", inPlace := ["internal/abi.NoEscape", "internal/bytealg.MakeNoZero"], unfollowed := true, recurses := true, apart := false, narrowed := true }
def SeriesPlaysUptoSaid : Prop := seriesPlaysUptoRow.holds Try.pinned (OpenSpec.upto seriesPlaysSpec)

/-- 'tocsinlaw17.SeriesNil', WHERE WHAT IT READS IS OF BULK AT MOST 1048576: true; the input reads as it did. -/
def seriesNilUptoRow : OpenClaim := { program := "ytlhlaadnifkdhaa", sum := "a0d2aff70fa5225f8503c5ffd601134d9be786d62e95e2c8ed4bf9f82e4b72c7", func := "tocsin/tocsinlaw17.SeriesNil", spec := "seriesNil", inPlace := ["internal/abi.NoEscape", "internal/bytealg.MakeNoZero"], unfollowed := true, recurses := true, apart := false, narrowed := true }
def SeriesNilUptoSaid : Prop := seriesNilUptoRow.holds Try.pinned (OpenSpec.upto seriesNilSpec)

/-- 'tocsinlaw17.SeriesApart', WHERE WHAT IT READS IS OF BULK AT MOST 1048576: true; the input reads as it did. -/
def seriesApartUptoRow : OpenClaim := { program := "ytlhlaadnifkdhaa", sum := "a0d2aff70fa5225f8503c5ffd601134d9be786d62e95e2c8ed4bf9f82e4b72c7", func := "tocsin/tocsinlaw17.SeriesApart", spec := "seriesApart", inPlace := ["internal/abi.NoEscape", "internal/bytealg.MakeNoZero"], unfollowed := true, recurses := true, apart := false, narrowed := true }
def SeriesApartUptoSaid : Prop := seriesApartUptoRow.holds Try.pinned (OpenSpec.upto seriesApartSpec)

/-- 'tocsinlaw17.SeriesSelects', WHERE WHAT IT READS IS OF BULK AT MOST 1048576: true; the input reads as it did. -/
def seriesSelectsUptoRow : OpenClaim := { program := "ytlhlaadnifkdhaa", sum := "a0d2aff70fa5225f8503c5ffd601134d9be786d62e95e2c8ed4bf9f82e4b72c7", func := "tocsin/tocsinlaw17.SeriesSelects", spec := "seriesSelects", inPlace := ["internal/abi.NoEscape", "internal/bytealg.MakeNoZero"], unfollowed := true, recurses := true, apart := false, narrowed := true }
def SeriesSelectsUptoSaid : Prop := seriesSelectsUptoRow.holds Try.pinned (OpenSpec.upto seriesSelectsSpec)

end Rows
end Go.Proofs.Ytlhlaadnifkdhaa
