/-
  No cell of these rows narrows 'for every input' (looked for: loops, veiled, ifaces, maps, wideKeys, modest, calm, conditions, laid).
  DERIVED. THE GIVEN ROWS OF THIS SEAT. 9 by the template 'for every input the law returns true; each argument reads behind the call as it read before'; 0 by the template 'total and deterministic' (their statements: YtiicfejaoilfcaaTotals.lean).
  GIVEN WITH THE SEED: the statements are not yours to turn. If you find one false, say at which input.
  Laid BY PROGRAM, IN A SANDBOX (cutbox-rows.mjs): the forced cells as the released guide's own fill.sh prints them over the translation c2d6ee78e4c78d73… (all of the seat's roots in one cut). By AI agents, Wed Nov 11 2026. No macro, syntax, notation, axiom, sorry.
-/
import Derived.Test.YtiicfejaoilfcaaChecked
import GoSem.Claim
import GoSem.ClaimJoined
import GoSem.ClaimMapViews
import Derived.JoinedTies
import Derived.KernelRfl
namespace Go.Proofs.Ytiicfejaoilfcaa
/- THE CELL 'sum', in the pinned program and in every row, IS THE sha256 OF THE DUMP (.gsa) THAT YtiicfejaoilfcaaProg.lean LOADS. Nothing in Lean hashes anything: it is a label: what it is worth is what the hold of that sum in a sandbox is worth. -/
noncomputable def Try.pinned : Pinned := { name := "ytiicfejaoilfcaa", sum := "c2d6ee78e4c78d73376db3cc12b275d360d2d5866483e8fcda40d5a78138499c", checked := Try.checked }
namespace Rows
def none {H : Type} : Left H := { results := [], args := [] }

/-- 'tocsinlaw07.LabelsLess': WHATEVER THE INPUT: true; the input reads as it did. -/
def labelsLessSpec : ChangeSpec := { name := "labelsLess", fn := fun _ => fun
  | [d1, d2] => { results := [.lit (.bool true)], args := [d1, d2] }
  | _ => none }
def labelsLessRow : OpenClaim := { program := "ytiicfejaoilfcaa", sum := "c2d6ee78e4c78d73376db3cc12b275d360d2d5866483e8fcda40d5a78138499c", func := "tocsin/tocsinlaw07.LabelsLess", spec := "labelsLess", unfollowed := true, recurses := true, apart := false }
def LabelsLessSaid : Prop := labelsLessRow.holds Try.pinned (OpenSpec.ofChange labelsLessSpec)

/-- ITS FALSE NEIGHBOUR: 'it returns false'. Refute it at one input. -/
def labelsLessWrong : ChangeSpec := { name := "labelsLess", fn := fun _ => fun
  | [d1, d2] => { results := [.lit (.bool false)], args := [d1, d2] }
  | _ => none }
def LabelsLessWrongFalsely : Prop := labelsLessRow.holds Try.pinned (OpenSpec.ofChange labelsLessWrong)

/-- 'tocsinlaw07.LabelsRead': WHATEVER THE INPUT: true; the input reads as it did. -/
def labelsReadSpec : ChangeSpec := { name := "labelsRead", fn := fun _ => fun
  | [d] => { results := [.lit (.bool true)], args := [d] }
  | _ => none }
def labelsReadRow : OpenClaim := { program := "ytiicfejaoilfcaa", sum := "c2d6ee78e4c78d73376db3cc12b275d360d2d5866483e8fcda40d5a78138499c", func := "tocsin/tocsinlaw07.LabelsRead", spec := "labelsRead", inPlace := ["internal/abi.NoEscape"], unfollowed := true, recurses := true, apart := false }
def LabelsReadSaid : Prop := labelsReadRow.holds Try.pinned (OpenSpec.ofChange labelsReadSpec)

/-- ITS FALSE NEIGHBOUR: 'it returns false'. Refute it at one input. -/
def labelsReadWrong : ChangeSpec := { name := "labelsRead", fn := fun _ => fun
  | [d] => { results := [.lit (.bool false)], args := [d] }
  | _ => none }
def LabelsReadWrongFalsely : Prop := labelsReadRow.holds Try.pinned (OpenSpec.ofChange labelsReadWrong)

/-- 'tocsinlaw07.LabelsTell': WHATEVER THE INPUT: true; the input reads as it did. -/
def labelsTellSpec : ChangeSpec := { name := "labelsTell", fn := fun _ => fun
  | [d1, d2, d3] => { results := [.lit (.bool true)], args := [d1, d2, d3] }
  | _ => none }
def labelsTellRow : OpenClaim := { program := "ytiicfejaoilfcaa", sum := "c2d6ee78e4c78d73376db3cc12b275d360d2d5866483e8fcda40d5a78138499c", func := "tocsin/tocsinlaw07.LabelsTell", spec := "labelsTell", inPlace := ["internal/abi.NoEscape", "internal/bytealg.MakeNoZero"], unfollowed := true, recurses := true, apart := false }
def LabelsTellSaid : Prop := labelsTellRow.holds Try.pinned (OpenSpec.ofChange labelsTellSpec)

/-- ITS FALSE NEIGHBOUR: 'it returns false'. Refute it at one input. -/
def labelsTellWrong : ChangeSpec := { name := "labelsTell", fn := fun _ => fun
  | [d1, d2, d3] => { results := [.lit (.bool false)], args := [d1, d2, d3] }
  | _ => none }
def LabelsTellWrongFalsely : Prop := labelsTellRow.holds Try.pinned (OpenSpec.ofChange labelsTellWrong)

/-- 'tocsinlaw07.LabelsValue': WHATEVER THE INPUT: true; the input reads as it did. -/
def labelsValueSpec : ChangeSpec := { name := "labelsValue", fn := fun _ => fun
  | [d1, d2] => { results := [.lit (.bool true)], args := [d1, d2] }
  | _ => none }
def labelsValueRow : OpenClaim := { program := "ytiicfejaoilfcaa", sum := "c2d6ee78e4c78d73376db3cc12b275d360d2d5866483e8fcda40d5a78138499c", func := "tocsin/tocsinlaw07.LabelsValue", spec := "labelsValue", inPlace := ["internal/abi.NoEscape"], unfollowed := true, recurses := true, apart := false }
def LabelsValueSaid : Prop := labelsValueRow.holds Try.pinned (OpenSpec.ofChange labelsValueSpec)

/-- ITS FALSE NEIGHBOUR: 'it returns false'. Refute it at one input. -/
def labelsValueWrong : ChangeSpec := { name := "labelsValue", fn := fun _ => fun
  | [d1, d2] => { results := [.lit (.bool false)], args := [d1, d2] }
  | _ => none }
def LabelsValueWrongFalsely : Prop := labelsValueRow.holds Try.pinned (OpenSpec.ofChange labelsValueWrong)

/-- 'tocsinlaw07.LabelsLess1': WHATEVER THE INPUT: true; the input reads as it did. -/
def labelsLess1Spec : ChangeSpec := { name := "labelsLess1", fn := fun _ => fun
  | [d] => { results := [.lit (.bool true)], args := [d] }
  | _ => none }
def labelsLess1Row : OpenClaim := { program := "ytiicfejaoilfcaa", sum := "c2d6ee78e4c78d73376db3cc12b275d360d2d5866483e8fcda40d5a78138499c", func := "tocsin/tocsinlaw07.LabelsLess1", spec := "labelsLess1", inPlace := ["internal/abi.NoEscape"], unfollowed := true, recurses := true, apart := false }
def LabelsLess1Said : Prop := labelsLess1Row.holds Try.pinned (OpenSpec.ofChange labelsLess1Spec)

/-- ITS FALSE NEIGHBOUR: 'it returns false'. Refute it at one input. -/
def labelsLess1Wrong : ChangeSpec := { name := "labelsLess1", fn := fun _ => fun
  | [d] => { results := [.lit (.bool false)], args := [d] }
  | _ => none }
def LabelsLess1WrongFalsely : Prop := labelsLess1Row.holds Try.pinned (OpenSpec.ofChange labelsLess1Wrong)

/-- 'tocsinlaw07.LabelsParts': WHATEVER THE INPUT: true; the input reads as it did. -/
def labelsPartsSpec : ChangeSpec := { name := "labelsParts", fn := fun _ => fun
  | [d1, d2, d3] => { results := [.lit (.bool true)], args := [d1, d2, d3] }
  | _ => none }
def labelsPartsRow : OpenClaim := { program := "ytiicfejaoilfcaa", sum := "c2d6ee78e4c78d73376db3cc12b275d360d2d5866483e8fcda40d5a78138499c", func := "tocsin/tocsinlaw07.LabelsParts", spec := "labelsParts", inPlace := ["internal/abi.NoEscape"], unfollowed := true, recurses := true, apart := false }
def LabelsPartsSaid : Prop := labelsPartsRow.holds Try.pinned (OpenSpec.ofChange labelsPartsSpec)

/-- ITS FALSE NEIGHBOUR: 'it returns false'. Refute it at one input. -/
def labelsPartsWrong : ChangeSpec := { name := "labelsParts", fn := fun _ => fun
  | [d1, d2, d3] => { results := [.lit (.bool false)], args := [d1, d2, d3] }
  | _ => none }
def LabelsPartsWrongFalsely : Prop := labelsPartsRow.holds Try.pinned (OpenSpec.ofChange labelsPartsWrong)

/-- 'tocsinlaw07.LabelsQuote': WHATEVER THE INPUT: true; the input reads as it did. -/
def labelsQuoteSpec : ChangeSpec := { name := "labelsQuote", fn := fun _ => fun
  | [d1, d2] => { results := [.lit (.bool true)], args := [d1, d2] }
  | _ => none }
def labelsQuoteRow : OpenClaim := { program := "ytiicfejaoilfcaa", sum := "c2d6ee78e4c78d73376db3cc12b275d360d2d5866483e8fcda40d5a78138499c", func := "tocsin/tocsinlaw07.LabelsQuote", spec := "labelsQuote", inPlace := ["internal/abi.NoEscape"], unfollowed := true, recurses := true, apart := false }
def LabelsQuoteSaid : Prop := labelsQuoteRow.holds Try.pinned (OpenSpec.ofChange labelsQuoteSpec)

/-- ITS FALSE NEIGHBOUR: 'it returns false'. Refute it at one input. -/
def labelsQuoteWrong : ChangeSpec := { name := "labelsQuote", fn := fun _ => fun
  | [d1, d2] => { results := [.lit (.bool false)], args := [d1, d2] }
  | _ => none }
def LabelsQuoteWrongFalsely : Prop := labelsQuoteRow.holds Try.pinned (OpenSpec.ofChange labelsQuoteWrong)

/-- 'tocsinlaw07.LabelsBack': WHATEVER THE INPUT: true; the input reads as it did. -/
def labelsBackSpec : ChangeSpec := { name := "labelsBack", fn := fun _ => fun
  | [d1, d2, d3] => { results := [.lit (.bool true)], args := [d1, d2, d3] }
  | _ => none }
def labelsBackRow : OpenClaim := { program := "ytiicfejaoilfcaa", sum := "c2d6ee78e4c78d73376db3cc12b275d360d2d5866483e8fcda40d5a78138499c", func := "tocsin/tocsinlaw07.LabelsBack", spec := "labelsBack", inPlace := ["internal/abi.NoEscape", "internal/bytealg.MakeNoZero"], unfollowed := true, recurses := true, apart := false }
def LabelsBackSaid : Prop := labelsBackRow.holds Try.pinned (OpenSpec.ofChange labelsBackSpec)

/-- ITS FALSE NEIGHBOUR: 'it returns false'. Refute it at one input. -/
def labelsBackWrong : ChangeSpec := { name := "labelsBack", fn := fun _ => fun
  | [d1, d2, d3] => { results := [.lit (.bool false)], args := [d1, d2, d3] }
  | _ => none }
def LabelsBackWrongFalsely : Prop := labelsBackRow.holds Try.pinned (OpenSpec.ofChange labelsBackWrong)

/-- 'tocsinlaw07.LabelsOrder': WHATEVER THE INPUT: true; the input reads as it did. -/
def labelsOrderSpec : ChangeSpec := { name := "labelsOrder", fn := fun _ => fun
  | [d1, d2, d3] => { results := [.lit (.bool true)], args := [d1, d2, d3] }
  | _ => none }
def labelsOrderRow : OpenClaim := { program := "ytiicfejaoilfcaa", sum := "c2d6ee78e4c78d73376db3cc12b275d360d2d5866483e8fcda40d5a78138499c", func := "tocsin/tocsinlaw07.LabelsOrder", spec := "labelsOrder", inPlace := ["internal/abi.NoEscape", "internal/bytealg.MakeNoZero"], unfollowed := true, recurses := true, apart := false }
def LabelsOrderSaid : Prop := labelsOrderRow.holds Try.pinned (OpenSpec.ofChange labelsOrderSpec)

/-- ITS FALSE NEIGHBOUR: 'it returns false'. Refute it at one input. -/
def labelsOrderWrong : ChangeSpec := { name := "labelsOrder", fn := fun _ => fun
  | [d1, d2, d3] => { results := [.lit (.bool false)], args := [d1, d2, d3] }
  | _ => none }
def LabelsOrderWrongFalsely : Prop := labelsOrderRow.holds Try.pinned (OpenSpec.ofChange labelsOrderWrong)

/- THE SECOND FORM. 'bulk': how many values and letters a reading holds, each counted each time it is reached (what is shared counts as often as it is met; a slice's spare places count too). A statement '..UptoSaid' is the law's where the arguments, and the package variables that the reading takes, are together of bulk at most 1048576: NARROWER than '..Said'. Prove '..Said' where nothing that the law and all that it calls make is longer than what came in: it says more and counts as full. Else prove '..UptoSaid'. A law counts once. -/
mutual
def uptoBulk {H : Type} : DataW H → Nat
  | .lit (.string bytes) => bytes.length + 1
  | .lit _ => 1
  | .nil => 1
  | .ptr d => uptoBulk d + 1
  | .slice elems spare => uptoBulkAll elems + uptoBulkAll spare + 1
  | .agg parts => uptoBulkAll parts + 1
  | .iface _ d => uptoBulk d + 1
  | .map entries => uptoBulkEntries entries + 1
  | .held _ => 1
def uptoBulkAll {H : Type} : List (DataW H) → Nat
  | [] => 0
  | d :: r => uptoBulk d + uptoBulkAll r
def uptoBulkEntries {H : Type} : List (Lit × DataW H) → Nat
  | [] => 0
  | x :: r => uptoBulkEntry x + uptoBulkEntries r
def uptoBulkEntry {H : Type} : Lit × DataW H → Nat
  | (.string bytes, d) => bytes.length + uptoBulk d + 1
  | (_, d) => uptoBulk d + 1
 end
def uptoSmall : (H : Type) → List (DataW H) → Bool := fun _ ds => decide (uptoBulkAll ds ≤ 1048576)
def OpenSpec.upto (s : _root_.Go.ChangeSpec) : _root_.Go.OpenSpec := { _root_.Go.OpenSpec.ofChange s with cond := some uptoSmall }

/-- 'tocsinlaw07.LabelsLess', WHERE WHAT IT READS IS OF BULK AT MOST 1048576: true; the input reads as it did. -/
def labelsLessUptoRow : OpenClaim := { program := "ytiicfejaoilfcaa", sum := "c2d6ee78e4c78d73376db3cc12b275d360d2d5866483e8fcda40d5a78138499c", func := "tocsin/tocsinlaw07.LabelsLess", spec := "labelsLess", unfollowed := true, recurses := true, apart := false, narrowed := true }
def LabelsLessUptoSaid : Prop := labelsLessUptoRow.holds Try.pinned (OpenSpec.upto labelsLessSpec)

/-- 'tocsinlaw07.LabelsRead', WHERE WHAT IT READS IS OF BULK AT MOST 1048576: true; the input reads as it did. -/
def labelsReadUptoRow : OpenClaim := { program := "ytiicfejaoilfcaa", sum := "c2d6ee78e4c78d73376db3cc12b275d360d2d5866483e8fcda40d5a78138499c", func := "tocsin/tocsinlaw07.LabelsRead", spec := "labelsRead", inPlace := ["internal/abi.NoEscape"], unfollowed := true, recurses := true, apart := false, narrowed := true }
def LabelsReadUptoSaid : Prop := labelsReadUptoRow.holds Try.pinned (OpenSpec.upto labelsReadSpec)

/-- 'tocsinlaw07.LabelsTell', WHERE WHAT IT READS IS OF BULK AT MOST 1048576: true; the input reads as it did. -/
def labelsTellUptoRow : OpenClaim := { program := "ytiicfejaoilfcaa", sum := "c2d6ee78e4c78d73376db3cc12b275d360d2d5866483e8fcda40d5a78138499c", func := "tocsin/tocsinlaw07.LabelsTell", spec := "labelsTell", inPlace := ["internal/abi.NoEscape", "internal/bytealg.MakeNoZero"], unfollowed := true, recurses := true, apart := false, narrowed := true }
def LabelsTellUptoSaid : Prop := labelsTellUptoRow.holds Try.pinned (OpenSpec.upto labelsTellSpec)

/-- 'tocsinlaw07.LabelsValue', WHERE WHAT IT READS IS OF BULK AT MOST 1048576: true; the input reads as it did. -/
def labelsValueUptoRow : OpenClaim := { program := "ytiicfejaoilfcaa", sum := "c2d6ee78e4c78d73376db3cc12b275d360d2d5866483e8fcda40d5a78138499c", func := "tocsin/tocsinlaw07.LabelsValue", spec := "labelsValue", inPlace := ["internal/abi.NoEscape"], unfollowed := true, recurses := true, apart := false, narrowed := true }
def LabelsValueUptoSaid : Prop := labelsValueUptoRow.holds Try.pinned (OpenSpec.upto labelsValueSpec)

/-- 'tocsinlaw07.LabelsLess1', WHERE WHAT IT READS IS OF BULK AT MOST 1048576: true; the input reads as it did. -/
def labelsLess1UptoRow : OpenClaim := { program := "ytiicfejaoilfcaa", sum := "c2d6ee78e4c78d73376db3cc12b275d360d2d5866483e8fcda40d5a78138499c", func := "tocsin/tocsinlaw07.LabelsLess1", spec := "labelsLess1", inPlace := ["internal/abi.NoEscape"], unfollowed := true, recurses := true, apart := false, narrowed := true }
def LabelsLess1UptoSaid : Prop := labelsLess1UptoRow.holds Try.pinned (OpenSpec.upto labelsLess1Spec)

/-- 'tocsinlaw07.LabelsParts', WHERE WHAT IT READS IS OF BULK AT MOST 1048576: true; the input reads as it did. -/
def labelsPartsUptoRow : OpenClaim := { program := "ytiicfejaoilfcaa", sum := "c2d6ee78e4c78d73376db3cc12b275d360d2d5866483e8fcda40d5a78138499c", func := "tocsin/tocsinlaw07.LabelsParts", spec := "labelsParts", inPlace := ["internal/abi.NoEscape"], unfollowed := true, recurses := true, apart := false, narrowed := true }
def LabelsPartsUptoSaid : Prop := labelsPartsUptoRow.holds Try.pinned (OpenSpec.upto labelsPartsSpec)

/-- 'tocsinlaw07.LabelsQuote', WHERE WHAT IT READS IS OF BULK AT MOST 1048576: true; the input reads as it did. -/
def labelsQuoteUptoRow : OpenClaim := { program := "ytiicfejaoilfcaa", sum := "c2d6ee78e4c78d73376db3cc12b275d360d2d5866483e8fcda40d5a78138499c", func := "tocsin/tocsinlaw07.LabelsQuote", spec := "labelsQuote", inPlace := ["internal/abi.NoEscape"], unfollowed := true, recurses := true, apart := false, narrowed := true }
def LabelsQuoteUptoSaid : Prop := labelsQuoteUptoRow.holds Try.pinned (OpenSpec.upto labelsQuoteSpec)

/-- 'tocsinlaw07.LabelsBack', WHERE WHAT IT READS IS OF BULK AT MOST 1048576: true; the input reads as it did. -/
def labelsBackUptoRow : OpenClaim := { program := "ytiicfejaoilfcaa", sum := "c2d6ee78e4c78d73376db3cc12b275d360d2d5866483e8fcda40d5a78138499c", func := "tocsin/tocsinlaw07.LabelsBack", spec := "labelsBack", inPlace := ["internal/abi.NoEscape", "internal/bytealg.MakeNoZero"], unfollowed := true, recurses := true, apart := false, narrowed := true }
def LabelsBackUptoSaid : Prop := labelsBackUptoRow.holds Try.pinned (OpenSpec.upto labelsBackSpec)

/-- 'tocsinlaw07.LabelsOrder', WHERE WHAT IT READS IS OF BULK AT MOST 1048576: true; the input reads as it did. -/
def labelsOrderUptoRow : OpenClaim := { program := "ytiicfejaoilfcaa", sum := "c2d6ee78e4c78d73376db3cc12b275d360d2d5866483e8fcda40d5a78138499c", func := "tocsin/tocsinlaw07.LabelsOrder", spec := "labelsOrder", inPlace := ["internal/abi.NoEscape", "internal/bytealg.MakeNoZero"], unfollowed := true, recurses := true, apart := false, narrowed := true }
def LabelsOrderUptoSaid : Prop := labelsOrderUptoRow.holds Try.pinned (OpenSpec.upto labelsOrderSpec)

end Rows
end Go.Proofs.Ytiicfejaoilfcaa
