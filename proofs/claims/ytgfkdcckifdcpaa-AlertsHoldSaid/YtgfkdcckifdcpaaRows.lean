/-
  No cell of these rows narrows 'for every input' (looked for: loops, veiled, ifaces, maps, wideKeys, modest, calm, conditions, laid).
  DERIVED. THE GIVEN ROWS OF THIS SEAT. 5 by the template 'for every input the law returns true; each argument reads behind the call as it read before'; 0 by the template 'total and deterministic' (their statements: YtgfkdcckifdcpaaTotals.lean).
  GIVEN WITH THE SEED: the statements are not yours to turn. If you find one false, say at which input.
  Laid BY PROGRAM, IN A SANDBOX (cutbox-rows.mjs): the forced cells as the released guide's own fill.sh prints them over the translation 6bfcbd7f3a1ea42d… (all of the seat's roots in one cut). By AI agents, Wed Nov 11 2026. No macro, syntax, notation, axiom, sorry.
-/
import Derived.Test.YtgfkdcckifdcpaaChecked
import GoSem.Claim
import GoSem.ClaimJoined
import GoSem.ClaimMapViews
import Derived.JoinedTies
import Derived.KernelRfl
namespace Go.Proofs.Ytgfkdcckifdcpaa
/- THE CELL 'sum', in the pinned program and in every row, IS THE sha256 OF THE DUMP (.gsa) THAT YtgfkdcckifdcpaaProg.lean LOADS. Nothing in Lean hashes anything: it is a label: what it is worth is what the hold of that sum in a sandbox is worth. -/
noncomputable def Try.pinned : Pinned := { name := "ytgfkdcckifdcpaa", sum := "6bfcbd7f3a1ea42d1dec8171db12ec14771c3d1ec629a040530872b44d91d92c", checked := Try.checked }
namespace Rows
def none {H : Type} : Left H := { results := [], args := [] }

/-- 'tocsinlaw22.AlertsHold': WHATEVER THE INPUT: true; the input reads as it did. -/
def alertsHoldSpec : ChangeSpec := { name := "alertsHold", fn := fun _ => fun
  | [d1, d2, d3, d4] => { results := [.lit (.bool true)], args := [d1, d2, d3, d4] }
  | _ => none }
def alertsHoldRow : OpenClaim := { program := "ytgfkdcckifdcpaa", sum := "6bfcbd7f3a1ea42d1dec8171db12ec14771c3d1ec629a040530872b44d91d92c", func := "tocsin/tocsinlaw22.AlertsHold", spec := "alertsHold", unfollowed := true, recurses := true, apart := false }
def AlertsHoldSaid : Prop := alertsHoldRow.holds Try.pinned (OpenSpec.ofChange alertsHoldSpec)

/-- ITS FALSE NEIGHBOUR: 'it returns false'. Refute it at one input. -/
def alertsHoldWrong : ChangeSpec := { name := "alertsHold", fn := fun _ => fun
  | [d1, d2, d3, d4] => { results := [.lit (.bool false)], args := [d1, d2, d3, d4] }
  | _ => none }
def AlertsHoldWrongFalsely : Prop := alertsHoldRow.holds Try.pinned (OpenSpec.ofChange alertsHoldWrong)

/-- 'tocsinlaw22.AlertsLater': WHATEVER THE INPUT: true; the input reads as it did. -/
def alertsLaterSpec : ChangeSpec := { name := "alertsLater", fn := fun _ => fun
  | [d1, d2, d3, d4, d5, d6] => { results := [.lit (.bool true)], args := [d1, d2, d3, d4, d5, d6] }
  | _ => none }
def alertsLaterRow : OpenClaim := { program := "ytgfkdcckifdcpaa", sum := "6bfcbd7f3a1ea42d1dec8171db12ec14771c3d1ec629a040530872b44d91d92c", func := "tocsin/tocsinlaw22.AlertsLater", spec := "alertsLater", unfollowed := true, recurses := true, apart := false }
def AlertsLaterSaid : Prop := alertsLaterRow.holds Try.pinned (OpenSpec.ofChange alertsLaterSpec)

/-- ITS FALSE NEIGHBOUR: 'it returns false'. Refute it at one input. -/
def alertsLaterWrong : ChangeSpec := { name := "alertsLater", fn := fun _ => fun
  | [d1, d2, d3, d4, d5, d6] => { results := [.lit (.bool false)], args := [d1, d2, d3, d4, d5, d6] }
  | _ => none }
def AlertsLaterWrongFalsely : Prop := alertsLaterRow.holds Try.pinned (OpenSpec.ofChange alertsLaterWrong)

/-- 'tocsinlaw22.AlertsOthers': WHATEVER THE INPUT: true; the input reads as it did. -/
def alertsOthersSpec : ChangeSpec := { name := "alertsOthers", fn := fun _ => fun
  | [d1, d2, d3, d4, d5, d6] => { results := [.lit (.bool true)], args := [d1, d2, d3, d4, d5, d6] }
  | _ => none }
def alertsOthersRow : OpenClaim := { program := "ytgfkdcckifdcpaa", sum := "6bfcbd7f3a1ea42d1dec8171db12ec14771c3d1ec629a040530872b44d91d92c", func := "tocsin/tocsinlaw22.AlertsOthers", spec := "alertsOthers", unfollowed := true, recurses := true, apart := false }
def AlertsOthersSaid : Prop := alertsOthersRow.holds Try.pinned (OpenSpec.ofChange alertsOthersSpec)

/-- ITS FALSE NEIGHBOUR: 'it returns false'. Refute it at one input. -/
def alertsOthersWrong : ChangeSpec := { name := "alertsOthers", fn := fun _ => fun
  | [d1, d2, d3, d4, d5, d6] => { results := [.lit (.bool false)], args := [d1, d2, d3, d4, d5, d6] }
  | _ => none }
def AlertsOthersWrongFalsely : Prop := alertsOthersRow.holds Try.pinned (OpenSpec.ofChange alertsOthersWrong)

/-- 'tocsinlaw22.AlertsNone': WHATEVER THE INPUT: true; the input reads as it did. -/
def alertsNoneSpec : ChangeSpec := { name := "alertsNone", fn := fun _ => fun
  | [d1, d2, d3, d4, d5] => { results := [.lit (.bool true)], args := [d1, d2, d3, d4, d5] }
  | _ => none }
def alertsNoneRow : OpenClaim := { program := "ytgfkdcckifdcpaa", sum := "6bfcbd7f3a1ea42d1dec8171db12ec14771c3d1ec629a040530872b44d91d92c", func := "tocsin/tocsinlaw22.AlertsNone", spec := "alertsNone", unfollowed := true, recurses := true, apart := false }
def AlertsNoneSaid : Prop := alertsNoneRow.holds Try.pinned (OpenSpec.ofChange alertsNoneSpec)

/-- ITS FALSE NEIGHBOUR: 'it returns false'. Refute it at one input. -/
def alertsNoneWrong : ChangeSpec := { name := "alertsNone", fn := fun _ => fun
  | [d1, d2, d3, d4, d5] => { results := [.lit (.bool false)], args := [d1, d2, d3, d4, d5] }
  | _ => none }
def AlertsNoneWrongFalsely : Prop := alertsNoneRow.holds Try.pinned (OpenSpec.ofChange alertsNoneWrong)

/-- 'tocsinlaw22.AlertsAtOnce': WHATEVER THE INPUT: true; the input reads as it did. -/
def alertsAtOnceSpec : ChangeSpec := { name := "alertsAtOnce", fn := fun _ => fun
  | [d1, d2, d3, d4] => { results := [.lit (.bool true)], args := [d1, d2, d3, d4] }
  | _ => none }
def alertsAtOnceRow : OpenClaim := { program := "ytgfkdcckifdcpaa", sum := "6bfcbd7f3a1ea42d1dec8171db12ec14771c3d1ec629a040530872b44d91d92c", func := "tocsin/tocsinlaw22.AlertsAtOnce", spec := "alertsAtOnce", unfollowed := true, recurses := true, apart := false }
def AlertsAtOnceSaid : Prop := alertsAtOnceRow.holds Try.pinned (OpenSpec.ofChange alertsAtOnceSpec)

/-- ITS FALSE NEIGHBOUR: 'it returns false'. Refute it at one input. -/
def alertsAtOnceWrong : ChangeSpec := { name := "alertsAtOnce", fn := fun _ => fun
  | [d1, d2, d3, d4] => { results := [.lit (.bool false)], args := [d1, d2, d3, d4] }
  | _ => none }
def AlertsAtOnceWrongFalsely : Prop := alertsAtOnceRow.holds Try.pinned (OpenSpec.ofChange alertsAtOnceWrong)

/- THE SECOND FORM. 'bulk': how many values and letters a reading holds, each counted each time it is reached (what is shared counts as often as it is met; a slice's spare places count too). A statement '..UptoSaid' is the law's where the arguments, and the package variables that the reading takes, are together of bulk at most 1048576: NARROWER than '..Said'. Prove '..Said' where nothing that the law and all that it calls make is longer than what came in: it says more and counts as full. Else prove '..UptoSaid'. A law counts once. -/
mutual
def uptoBulk {H : Type} : DataW H → Nat
  | .lit (.string bytes) => bytes.length + 1
  | .lit _ => 1
  | .nil => 1
  | .ptr d => uptoBulk d + 1
  | .slice elems spare => uptoBulkAll elems + uptoBulkAll spare + 1
  | .agg parts => uptoBulkAll parts + 1
  | .iface _ d => uptoBulk d + 1
  | .map entries => uptoBulkEntries entries + 1
  | .held _ => 1
def uptoBulkAll {H : Type} : List (DataW H) → Nat
  | [] => 0
  | d :: r => uptoBulk d + uptoBulkAll r
def uptoBulkEntries {H : Type} : List (Lit × DataW H) → Nat
  | [] => 0
  | x :: r => uptoBulkEntry x + uptoBulkEntries r
def uptoBulkEntry {H : Type} : Lit × DataW H → Nat
  | (.string bytes, d) => bytes.length + uptoBulk d + 1
  | (_, d) => uptoBulk d + 1
 end
def uptoSmall : (H : Type) → List (DataW H) → Bool := fun _ ds => decide (uptoBulkAll ds ≤ 1048576)
def OpenSpec.upto (s : _root_.Go.ChangeSpec) : _root_.Go.OpenSpec := { _root_.Go.OpenSpec.ofChange s with cond := some uptoSmall }

/-- 'tocsinlaw22.AlertsHold', WHERE WHAT IT READS IS OF BULK AT MOST 1048576: true; the input reads as it did. -/
def alertsHoldUptoRow : OpenClaim := { program := "ytgfkdcckifdcpaa", sum := "6bfcbd7f3a1ea42d1dec8171db12ec14771c3d1ec629a040530872b44d91d92c", func := "tocsin/tocsinlaw22.AlertsHold", spec := "alertsHold", unfollowed := true, recurses := true, apart := false, narrowed := true }
def AlertsHoldUptoSaid : Prop := alertsHoldUptoRow.holds Try.pinned (OpenSpec.upto alertsHoldSpec)

/-- 'tocsinlaw22.AlertsLater', WHERE WHAT IT READS IS OF BULK AT MOST 1048576: true; the input reads as it did. -/
def alertsLaterUptoRow : OpenClaim := { program := "ytgfkdcckifdcpaa", sum := "6bfcbd7f3a1ea42d1dec8171db12ec14771c3d1ec629a040530872b44d91d92c", func := "tocsin/tocsinlaw22.AlertsLater", spec := "alertsLater", unfollowed := true, recurses := true, apart := false, narrowed := true }
def AlertsLaterUptoSaid : Prop := alertsLaterUptoRow.holds Try.pinned (OpenSpec.upto alertsLaterSpec)

/-- 'tocsinlaw22.AlertsOthers', WHERE WHAT IT READS IS OF BULK AT MOST 1048576: true; the input reads as it did. -/
def alertsOthersUptoRow : OpenClaim := { program := "ytgfkdcckifdcpaa", sum := "6bfcbd7f3a1ea42d1dec8171db12ec14771c3d1ec629a040530872b44d91d92c", func := "tocsin/tocsinlaw22.AlertsOthers", spec := "alertsOthers", unfollowed := true, recurses := true, apart := false, narrowed := true }
def AlertsOthersUptoSaid : Prop := alertsOthersUptoRow.holds Try.pinned (OpenSpec.upto alertsOthersSpec)

/-- 'tocsinlaw22.AlertsNone', WHERE WHAT IT READS IS OF BULK AT MOST 1048576: true; the input reads as it did. -/
def alertsNoneUptoRow : OpenClaim := { program := "ytgfkdcckifdcpaa", sum := "6bfcbd7f3a1ea42d1dec8171db12ec14771c3d1ec629a040530872b44d91d92c", func := "tocsin/tocsinlaw22.AlertsNone", spec := "alertsNone", unfollowed := true, recurses := true, apart := false, narrowed := true }
def AlertsNoneUptoSaid : Prop := alertsNoneUptoRow.holds Try.pinned (OpenSpec.upto alertsNoneSpec)

/-- 'tocsinlaw22.AlertsAtOnce', WHERE WHAT IT READS IS OF BULK AT MOST 1048576: true; the input reads as it did. -/
def alertsAtOnceUptoRow : OpenClaim := { program := "ytgfkdcckifdcpaa", sum := "6bfcbd7f3a1ea42d1dec8171db12ec14771c3d1ec629a040530872b44d91d92c", func := "tocsin/tocsinlaw22.AlertsAtOnce", spec := "alertsAtOnce", unfollowed := true, recurses := true, apart := false, narrowed := true }
def AlertsAtOnceUptoSaid : Prop := alertsAtOnceUptoRow.holds Try.pinned (OpenSpec.upto alertsAtOnceSpec)

end Rows
end Go.Proofs.Ytgfkdcckifdcpaa
