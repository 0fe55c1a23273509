/-
  No cell of these rows narrows 'for every input' (looked for: loops, veiled, ifaces, maps, wideKeys, modest, calm, conditions, laid).
  DERIVED. THE GIVEN ROWS OF THIS SEAT. 7 by the template 'for every input the law returns true; each argument reads behind the call as it read before'; 0 by the template 'total and deterministic' (their statements: YtigdpkofceghlaaTotals.lean).
  GIVEN WITH THE SEED: the statements are not yours to turn. If you find one false, say at which input.
  Laid BY PROGRAM, IN A SANDBOX (cutbox-rows.mjs): the forced cells as the released guide's own fill.sh prints them over the translation 48a0c404d2b00cb5… (all of the seat's roots in one cut). By AI agents, Wed Nov 11 2026. No macro, syntax, notation, axiom, sorry.
-/
import Derived.Test.YtigdpkofceghlaaChecked
import GoSem.Claim
import GoSem.ClaimJoined
import GoSem.ClaimMapViews
import Derived.JoinedTies
import Derived.KernelRfl
namespace Go.Proofs.Ytigdpkofceghlaa
/- THE CELL 'sum', in the pinned program and in every row, IS THE sha256 OF THE DUMP (.gsa) THAT YtigdpkofceghlaaProg.lean LOADS. Nothing in Lean hashes anything: it is a label: what it is worth is what the hold of that sum in a sandbox is worth. -/
noncomputable def Try.pinned : Pinned := { name := "ytigdpkofceghlaa", sum := "48a0c404d2b00cb54245ff29d38c3795a37cd8c0207ffb41cdf32450ad218028", checked := Try.checked }
namespace Rows
def none {H : Type} : Left H := { results := [], args := [] }

/-- 'tocsinlaw25.HeapFirst': WHATEVER THE INPUT: true; the input reads as it did. -/
def heapFirstSpec : ChangeSpec := { name := "heapFirst", fn := fun _ => fun
  | [d] => { results := [.lit (.bool true)], args := [d] }
  | _ => none }
def heapFirstRow : OpenClaim := { program := "ytigdpkofceghlaa", sum := "48a0c404d2b00cb54245ff29d38c3795a37cd8c0207ffb41cdf32450ad218028", func := "tocsin/tocsinlaw25.HeapFirst", spec := "heapFirst", unfollowed := true, recurses := true, apart := false }
def HeapFirstSaid : Prop := heapFirstRow.holds Try.pinned (OpenSpec.ofChange heapFirstSpec)

/-- ITS FALSE NEIGHBOUR: 'it returns false'. Refute it at one input. -/
def heapFirstWrong : ChangeSpec := { name := "heapFirst", fn := fun _ => fun
  | [d] => { results := [.lit (.bool false)], args := [d] }
  | _ => none }
def HeapFirstWrongFalsely : Prop := heapFirstRow.holds Try.pinned (OpenSpec.ofChange heapFirstWrong)

/-- 'tocsinlaw25.HeapRising': WHATEVER THE INPUT: true; the input reads as it did. -/
def heapRisingSpec : ChangeSpec := { name := "heapRising", fn := fun _ => fun
  | [d1, d2] => { results := [.lit (.bool true)], args := [d1, d2] }
  | _ => none }
def heapRisingRow : OpenClaim := { program := "ytigdpkofceghlaa", sum := "48a0c404d2b00cb54245ff29d38c3795a37cd8c0207ffb41cdf32450ad218028", func := "tocsin/tocsinlaw25.HeapRising", spec := "heapRising", unfollowed := true, recurses := true, apart := false }
def HeapRisingSaid : Prop := heapRisingRow.holds Try.pinned (OpenSpec.ofChange heapRisingSpec)

/-- ITS FALSE NEIGHBOUR: 'it returns false'. Refute it at one input. -/
def heapRisingWrong : ChangeSpec := { name := "heapRising", fn := fun _ => fun
  | [d1, d2] => { results := [.lit (.bool false)], args := [d1, d2] }
  | _ => none }
def HeapRisingWrongFalsely : Prop := heapRisingRow.holds Try.pinned (OpenSpec.ofChange heapRisingWrong)

/-- 'tocsinlaw25.HeapOrder': WHATEVER THE INPUT: true; the input reads as it did. -/
def heapOrderSpec : ChangeSpec := { name := "heapOrder", fn := fun _ => fun
  | [d1, d2] => { results := [.lit (.bool true)], args := [d1, d2] }
  | _ => none }
def heapOrderRow : OpenClaim := { program := "ytigdpkofceghlaa", sum := "48a0c404d2b00cb54245ff29d38c3795a37cd8c0207ffb41cdf32450ad218028", func := "tocsin/tocsinlaw25.HeapOrder", spec := "heapOrder", unfollowed := true, recurses := true, apart := false }
def HeapOrderSaid : Prop := heapOrderRow.holds Try.pinned (OpenSpec.ofChange heapOrderSpec)

/-- ITS FALSE NEIGHBOUR: 'it returns false'. Refute it at one input. -/
def heapOrderWrong : ChangeSpec := { name := "heapOrder", fn := fun _ => fun
  | [d1, d2] => { results := [.lit (.bool false)], args := [d1, d2] }
  | _ => none }
def HeapOrderWrongFalsely : Prop := heapOrderRow.holds Try.pinned (OpenSpec.ofChange heapOrderWrong)

/-- 'tocsinlaw25.HeapPut': WHATEVER THE INPUT: true; the input reads as it did. -/
def heapPutSpec : ChangeSpec := { name := "heapPut", fn := fun _ => fun
  | [d1, d2] => { results := [.lit (.bool true)], args := [d1, d2] }
  | _ => none }
def heapPutRow : OpenClaim := { program := "ytigdpkofceghlaa", sum := "48a0c404d2b00cb54245ff29d38c3795a37cd8c0207ffb41cdf32450ad218028", func := "tocsin/tocsinlaw25.HeapPut", spec := "heapPut", unfollowed := true, recurses := true, apart := false }
def HeapPutSaid : Prop := heapPutRow.holds Try.pinned (OpenSpec.ofChange heapPutSpec)

/-- ITS FALSE NEIGHBOUR: 'it returns false'. Refute it at one input. -/
def heapPutWrong : ChangeSpec := { name := "heapPut", fn := fun _ => fun
  | [d1, d2] => { results := [.lit (.bool false)], args := [d1, d2] }
  | _ => none }
def HeapPutWrongFalsely : Prop := heapPutRow.holds Try.pinned (OpenSpec.ofChange heapPutWrong)

/-- 'tocsinlaw25.HeapMin': WHATEVER THE INPUT: true; the input reads as it did. -/
def heapMinSpec : ChangeSpec := { name := "heapMin", fn := fun _ => fun
  | [d] => { results := [.lit (.bool true)], args := [d] }
  | _ => none }
def heapMinRow : OpenClaim := { program := "ytigdpkofceghlaa", sum := "48a0c404d2b00cb54245ff29d38c3795a37cd8c0207ffb41cdf32450ad218028", func := "tocsin/tocsinlaw25.HeapMin", spec := "heapMin", unfollowed := true, recurses := true, apart := false }
def HeapMinSaid : Prop := heapMinRow.holds Try.pinned (OpenSpec.ofChange heapMinSpec)

/-- ITS FALSE NEIGHBOUR: 'it returns false'. Refute it at one input. -/
def heapMinWrong : ChangeSpec := { name := "heapMin", fn := fun _ => fun
  | [d] => { results := [.lit (.bool false)], args := [d] }
  | _ => none }
def HeapMinWrongFalsely : Prop := heapMinRow.holds Try.pinned (OpenSpec.ofChange heapMinWrong)

/-- 'tocsinlaw25.HeapPlays': WHATEVER THE INPUT: true; the input reads as it did. -/
def heapPlaysSpec : ChangeSpec := { name := "heapPlays", fn := fun _ => fun
  | [d1, d2] => { results := [.lit (.bool true)], args := [d1, d2] }
  | _ => none }
def heapPlaysRow : OpenClaim := { program := "ytigdpkofceghlaa", sum := "48a0c404d2b00cb54245ff29d38c3795a37cd8c0207ffb41cdf32450ad218028", func := "tocsin/tocsinlaw25.HeapPlays", spec := "heapPlays", unfollowed := true, recurses := true, apart := false }
def HeapPlaysSaid : Prop := heapPlaysRow.holds Try.pinned (OpenSpec.ofChange heapPlaysSpec)

/-- ITS FALSE NEIGHBOUR: 'it returns false'. Refute it at one input. -/
def heapPlaysWrong : ChangeSpec := { name := "heapPlays", fn := fun _ => fun
  | [d1, d2] => { results := [.lit (.bool false)], args := [d1, d2] }
  | _ => none }
def HeapPlaysWrongFalsely : Prop := heapPlaysRow.holds Try.pinned (OpenSpec.ofChange heapPlaysWrong)

/-- 'tocsinlaw25.HeapNone': WHATEVER THE INPUT: true; the input reads as it did. -/
def heapNoneSpec : ChangeSpec := { name := "heapNone", fn := fun _ => fun
  | [d] => { results := [.lit (.bool true)], args := [d] }
  | _ => none }
def heapNoneRow : OpenClaim := { program := "ytigdpkofceghlaa", sum := "48a0c404d2b00cb54245ff29d38c3795a37cd8c0207ffb41cdf32450ad218028", func := "tocsin/tocsinlaw25.HeapNone", spec := "heapNone", unfollowed := true, recurses := true, apart := false }
def HeapNoneSaid : Prop := heapNoneRow.holds Try.pinned (OpenSpec.ofChange heapNoneSpec)

/-- ITS FALSE NEIGHBOUR: 'it returns false'. Refute it at one input. -/
def heapNoneWrong : ChangeSpec := { name := "heapNone", fn := fun _ => fun
  | [d] => { results := [.lit (.bool false)], args := [d] }
  | _ => none }
def HeapNoneWrongFalsely : Prop := heapNoneRow.holds Try.pinned (OpenSpec.ofChange heapNoneWrong)

/- THE SECOND FORM. 'bulk': how many values and letters a reading holds, each counted each time it is reached (what is shared counts as often as it is met; a slice's spare places count too). A statement '..UptoSaid' is the law's where the arguments, and the package variables that the reading takes, are together of bulk at most 1048576: NARROWER than '..Said'. Prove '..Said' where nothing that the law and all that it calls make is longer than what came in: it says more and counts as full. Else prove '..UptoSaid'. A law counts once. -/
mutual
def uptoBulk {H : Type} : DataW H → Nat
  | .lit (.string bytes) => bytes.length + 1
  | .lit _ => 1
  | .nil => 1
  | .ptr d => uptoBulk d + 1
  | .slice elems spare => uptoBulkAll elems + uptoBulkAll spare + 1
  | .agg parts => uptoBulkAll parts + 1
  | .iface _ d => uptoBulk d + 1
  | .map entries => uptoBulkEntries entries + 1
  | .held _ => 1
def uptoBulkAll {H : Type} : List (DataW H) → Nat
  | [] => 0
  | d :: r => uptoBulk d + uptoBulkAll r
def uptoBulkEntries {H : Type} : List (Lit × DataW H) → Nat
  | [] => 0
  | x :: r => uptoBulkEntry x + uptoBulkEntries r
def uptoBulkEntry {H : Type} : Lit × DataW H → Nat
  | (.string bytes, d) => bytes.length + uptoBulk d + 1
  | (_, d) => uptoBulk d + 1
 end
def uptoSmall : (H : Type) → List (DataW H) → Bool := fun _ ds => decide (uptoBulkAll ds ≤ 1048576)
def OpenSpec.upto (s : _root_.Go.ChangeSpec) : _root_.Go.OpenSpec := { _root_.Go.OpenSpec.ofChange s with cond := some uptoSmall }

/-- 'tocsinlaw25.HeapFirst', WHERE WHAT IT READS IS OF BULK AT MOST 1048576: true; the input reads as it did. -/
def heapFirstUptoRow : OpenClaim := { program := "ytigdpkofceghlaa", sum := "48a0c404d2b00cb54245ff29d38c3795a37cd8c0207ffb41cdf32450ad218028", func := "tocsin/tocsinlaw25.HeapFirst", spec := "heapFirst", unfollowed := true, recurses := true, apart := false, narrowed := true }
def HeapFirstUptoSaid : Prop := heapFirstUptoRow.holds Try.pinned (OpenSpec.upto heapFirstSpec)

/-- 'tocsinlaw25.HeapRising', WHERE WHAT IT READS IS OF BULK AT MOST 1048576: true; the input reads as it did. -/
def heapRisingUptoRow : OpenClaim := { program := "ytigdpkofceghlaa", sum := "48a0c404d2b00cb54245ff29d38c3795a37cd8c0207ffb41cdf32450ad218028", func := "tocsin/tocsinlaw25.HeapRising", spec := "heapRising", unfollowed := true, recurses := true, apart := false, narrowed := true }
def HeapRisingUptoSaid : Prop := heapRisingUptoRow.holds Try.pinned (OpenSpec.upto heapRisingSpec)

/-- 'tocsinlaw25.HeapOrder', WHERE WHAT IT READS IS OF BULK AT MOST 1048576: true; the input reads as it did. -/
def heapOrderUptoRow : OpenClaim := { program := "ytigdpkofceghlaa", sum := "48a0c404d2b00cb54245ff29d38c3795a37cd8c0207ffb41cdf32450ad218028", func := "tocsin/tocsinlaw25.HeapOrder", spec := "heapOrder", unfollowed := true, recurses := true, apart := false, narrowed := true }
def HeapOrderUptoSaid : Prop := heapOrderUptoRow.holds Try.pinned (OpenSpec.upto heapOrderSpec)

/-- 'tocsinlaw25.HeapPut', WHERE WHAT IT READS IS OF BULK AT MOST 1048576: true; the input reads as it did. -/
def heapPutUptoRow : OpenClaim := { program := "ytigdpkofceghlaa", sum := "48a0c404d2b00cb54245ff29d38c3795a37cd8c0207ffb41cdf32450ad218028", func := "tocsin/tocsinlaw25.HeapPut", spec := "heapPut", unfollowed := true, recurses := true, apart := false, narrowed := true }
def HeapPutUptoSaid : Prop := heapPutUptoRow.holds Try.pinned (OpenSpec.upto heapPutSpec)

/-- 'tocsinlaw25.HeapMin', WHERE WHAT IT READS IS OF BULK AT MOST 1048576: true; the input reads as it did. -/
def heapMinUptoRow : OpenClaim := { program := "ytigdpkofceghlaa", sum := "48a0c404d2b00cb54245ff29d38c3795a37cd8c0207ffb41cdf32450ad218028", func := "tocsin/tocsinlaw25.HeapMin", spec := "heapMin", unfollowed := true, recurses := true, apart := false, narrowed := true }
def HeapMinUptoSaid : Prop := heapMinUptoRow.holds Try.pinned (OpenSpec.upto heapMinSpec)

/-- 'tocsinlaw25.HeapPlays', WHERE WHAT IT READS IS OF BULK AT MOST 1048576: true; the input reads as it did. -/
def heapPlaysUptoRow : OpenClaim := { program := "ytigdpkofceghlaa", sum := "48a0c404d2b00cb54245ff29d38c3795a37cd8c0207ffb41cdf32450ad218028", func := "tocsin/tocsinlaw25.HeapPlays", spec := "heapPlays", unfollowed := true, recurses := true, apart := false, narrowed := true }
def HeapPlaysUptoSaid : Prop := heapPlaysUptoRow.holds Try.pinned (OpenSpec.upto heapPlaysSpec)

/-- 'tocsinlaw25.HeapNone', WHERE WHAT IT READS IS OF BULK AT MOST 1048576: true; the input reads as it did. -/
def heapNoneUptoRow : OpenClaim := { program := "ytigdpkofceghlaa", sum := "48a0c404d2b00cb54245ff29d38c3795a37cd8c0207ffb41cdf32450ad218028", func := "tocsin/tocsinlaw25.HeapNone", spec := "heapNone", unfollowed := true, recurses := true, apart := false, narrowed := true }
def HeapNoneUptoSaid : Prop := heapNoneUptoRow.holds Try.pinned (OpenSpec.upto heapNoneSpec)

end Rows
end Go.Proofs.Ytigdpkofceghlaa
