/-
  DERIVED. GIVEN WITH THE SEED: THE CARDS: each row of YtpmehejlamddeaaDoorRows.lean that lists a variable, with what it lists TIED to the program's text (the seventh form; the later family's looks); each row that meets fmt, with fmt's text TOLD by the authors' own Lean function (tested against real Go, not proved from fmt's source: count such statements apart). THE CARD IS WHAT COUNTS. Prove the row's statement (the work); the ties are given (YtpmehejlamddeaaDoorTie.lean); close each card by the builder's one call (the guide's Derived/Test/ToyasCard.lean, 'card_holds'). Laid BY PROGRAM, IN A SANDBOX (cutbox-door.mjs). By AI agents, Wed Nov 11 2026. No macro, syntax, notation, axiom, sorry.
-/
import Derived.Test.YtpmehejlamddeaaDoorRows
import GoSem.ClaimSeven
namespace Go.Proofs.YtpmehejlamddeaaDoor
namespace Rows

/-- THE TIED CARD OF 'tocsinlaw01.FixedReads'. -/
def fixedReadsCard : Claim7 := { stood := { row := fixedReadsRow, standIns := [], harness := (true, "3d1314d90843e6a2eb5ad4113d4fe6ca5daa94c235d2a5709f4625016529c0e5"), looks := false }, kinds := [], alts := [], laidByText := true, laidKinds := [.data, .data, .data, .data, .pinned], laidTests := true, laidLooks := .later }
def FixedReadsCardSaid : Prop := Claim7.holds Tryd.pinned (.plain (OpenSpec.ofChange fixedReadsSpec)) fixedReadsCard

/-- THE TIED CARD OF 'tocsinlaw01.FixedBack'. -/
def fixedBackCard : Claim7 := { stood := { row := fixedBackRow, standIns := [], harness := (true, "3d1314d90843e6a2eb5ad4113d4fe6ca5daa94c235d2a5709f4625016529c0e5"), looks := false }, kinds := [], alts := [], laidByText := true, laidKinds := [.data, .data, .data, .data, .pinned], laidTests := true, laidLooks := .later }
def FixedBackCardSaid : Prop := Claim7.holds Tryd.pinned (.plain (OpenSpec.ofChange fixedBackSpec)) fixedBackCard

/-- THE TIED CARD OF 'tocsinlaw01.FixedRises'. -/
def fixedRisesCard : Claim7 := { stood := { row := fixedRisesRow, standIns := [], harness := (true, "3d1314d90843e6a2eb5ad4113d4fe6ca5daa94c235d2a5709f4625016529c0e5"), looks := false }, kinds := [], alts := [], laidByText := true, laidKinds := [.data, .data, .data, .data, .pinned], laidTests := true, laidLooks := .later }
def FixedRisesCardSaid : Prop := Claim7.holds Tryd.pinned (.plain (OpenSpec.ofChange fixedRisesSpec)) fixedRisesCard

/-- THE TIED CARD OF 'tocsinlaw01.FixedSums'. -/
def fixedSumsCard : Claim7 := { stood := { row := fixedSumsRow, standIns := [], harness := (true, "3d1314d90843e6a2eb5ad4113d4fe6ca5daa94c235d2a5709f4625016529c0e5"), looks := false }, kinds := [], alts := [], laidByText := true, laidKinds := [.data, .data, .data, .data, .pinned], laidTests := true, laidLooks := .later }
def FixedSumsCardSaid : Prop := Claim7.holds Tryd.pinned (.plain (OpenSpec.ofChange fixedSumsSpec)) fixedSumsCard

/-- THE TIED CARD OF 'tocsinlaw01.FixedEqual'. -/
def fixedEqualCard : Claim7 := { stood := { row := fixedEqualRow, standIns := [], harness := (true, "3d1314d90843e6a2eb5ad4113d4fe6ca5daa94c235d2a5709f4625016529c0e5"), looks := false }, kinds := [], alts := [], laidByText := true, laidKinds := [.data, .data, .data, .data, .pinned], laidTests := true, laidLooks := .later }
def FixedEqualCardSaid : Prop := Claim7.holds Tryd.pinned (.plain (OpenSpec.ofChange fixedEqualSpec)) fixedEqualCard

/-- THE TIED CARD OF 'tocsinlaw01.FixedNoughts'. -/
def fixedNoughtsCard : Claim7 := { stood := { row := fixedNoughtsRow, standIns := [], harness := (true, "3d1314d90843e6a2eb5ad4113d4fe6ca5daa94c235d2a5709f4625016529c0e5"), looks := false }, kinds := [], alts := [], laidByText := true, laidKinds := [.data, .data, .data, .data, .pinned], laidTests := true, laidLooks := .later }
def FixedNoughtsCardSaid : Prop := Claim7.holds Tryd.pinned (.plain (OpenSpec.ofChange fixedNoughtsSpec)) fixedNoughtsCard

/-- THE TIED CARD OF 'tocsinlaw01.FixedWithin'. -/
def fixedWithinCard : Claim7 := { stood := { row := fixedWithinRow, standIns := [], harness := (true, "3d1314d90843e6a2eb5ad4113d4fe6ca5daa94c235d2a5709f4625016529c0e5"), looks := false }, kinds := [], alts := [], laidByText := true, laidKinds := [.data, .data, .data, .data, .pinned], laidTests := true, laidLooks := .later }
def FixedWithinCardSaid : Prop := Claim7.holds Tryd.pinned (.plain (OpenSpec.ofChange fixedWithinSpec)) fixedWithinCard

/-- THE TIED CARD OF 'tocsinlaw01.FixedSigns'. -/
def fixedSignsCard : Claim7 := { stood := { row := fixedSignsRow, standIns := [], harness := (true, "3d1314d90843e6a2eb5ad4113d4fe6ca5daa94c235d2a5709f4625016529c0e5"), looks := false }, kinds := [], alts := [], laidByText := true, laidKinds := [.data, .data, .data, .data, .pinned], laidTests := true, laidLooks := .later }
def FixedSignsCardSaid : Prop := Claim7.holds Tryd.pinned (.plain (OpenSpec.ofChange fixedSignsSpec)) fixedSignsCard

/-- THE SECOND FORM's CARD OF 'tocsinlaw01.FixedReads'. -/
def fixedReadsUptoCard : Claim7 := { stood := { row := fixedReadsUptoRow, standIns := [], harness := (true, "3d1314d90843e6a2eb5ad4113d4fe6ca5daa94c235d2a5709f4625016529c0e5"), looks := false }, kinds := [], alts := [], laidByText := true, laidKinds := [.data, .data, .data, .data, .pinned], laidTests := true, laidLooks := .later }
def FixedReadsUptoCardSaid : Prop := Claim7.holds Tryd.pinned (.plain (OpenSpec.upto fixedReadsSpec)) fixedReadsUptoCard

/-- THE SECOND FORM's CARD OF 'tocsinlaw01.FixedBack'. -/
def fixedBackUptoCard : Claim7 := { stood := { row := fixedBackUptoRow, standIns := [], harness := (true, "3d1314d90843e6a2eb5ad4113d4fe6ca5daa94c235d2a5709f4625016529c0e5"), looks := false }, kinds := [], alts := [], laidByText := true, laidKinds := [.data, .data, .data, .data, .pinned], laidTests := true, laidLooks := .later }
def FixedBackUptoCardSaid : Prop := Claim7.holds Tryd.pinned (.plain (OpenSpec.upto fixedBackSpec)) fixedBackUptoCard

/-- THE SECOND FORM's CARD OF 'tocsinlaw01.FixedRises'. -/
def fixedRisesUptoCard : Claim7 := { stood := { row := fixedRisesUptoRow, standIns := [], harness := (true, "3d1314d90843e6a2eb5ad4113d4fe6ca5daa94c235d2a5709f4625016529c0e5"), looks := false }, kinds := [], alts := [], laidByText := true, laidKinds := [.data, .data, .data, .data, .pinned], laidTests := true, laidLooks := .later }
def FixedRisesUptoCardSaid : Prop := Claim7.holds Tryd.pinned (.plain (OpenSpec.upto fixedRisesSpec)) fixedRisesUptoCard

/-- THE SECOND FORM's CARD OF 'tocsinlaw01.FixedSums'. -/
def fixedSumsUptoCard : Claim7 := { stood := { row := fixedSumsUptoRow, standIns := [], harness := (true, "3d1314d90843e6a2eb5ad4113d4fe6ca5daa94c235d2a5709f4625016529c0e5"), looks := false }, kinds := [], alts := [], laidByText := true, laidKinds := [.data, .data, .data, .data, .pinned], laidTests := true, laidLooks := .later }
def FixedSumsUptoCardSaid : Prop := Claim7.holds Tryd.pinned (.plain (OpenSpec.upto fixedSumsSpec)) fixedSumsUptoCard

/-- THE SECOND FORM's CARD OF 'tocsinlaw01.FixedEqual'. -/
def fixedEqualUptoCard : Claim7 := { stood := { row := fixedEqualUptoRow, standIns := [], harness := (true, "3d1314d90843e6a2eb5ad4113d4fe6ca5daa94c235d2a5709f4625016529c0e5"), looks := false }, kinds := [], alts := [], laidByText := true, laidKinds := [.data, .data, .data, .data, .pinned], laidTests := true, laidLooks := .later }
def FixedEqualUptoCardSaid : Prop := Claim7.holds Tryd.pinned (.plain (OpenSpec.upto fixedEqualSpec)) fixedEqualUptoCard

/-- THE SECOND FORM's CARD OF 'tocsinlaw01.FixedNoughts'. -/
def fixedNoughtsUptoCard : Claim7 := { stood := { row := fixedNoughtsUptoRow, standIns := [], harness := (true, "3d1314d90843e6a2eb5ad4113d4fe6ca5daa94c235d2a5709f4625016529c0e5"), looks := false }, kinds := [], alts := [], laidByText := true, laidKinds := [.data, .data, .data, .data, .pinned], laidTests := true, laidLooks := .later }
def FixedNoughtsUptoCardSaid : Prop := Claim7.holds Tryd.pinned (.plain (OpenSpec.upto fixedNoughtsSpec)) fixedNoughtsUptoCard

/-- THE SECOND FORM's CARD OF 'tocsinlaw01.FixedWithin'. -/
def fixedWithinUptoCard : Claim7 := { stood := { row := fixedWithinUptoRow, standIns := [], harness := (true, "3d1314d90843e6a2eb5ad4113d4fe6ca5daa94c235d2a5709f4625016529c0e5"), looks := false }, kinds := [], alts := [], laidByText := true, laidKinds := [.data, .data, .data, .data, .pinned], laidTests := true, laidLooks := .later }
def FixedWithinUptoCardSaid : Prop := Claim7.holds Tryd.pinned (.plain (OpenSpec.upto fixedWithinSpec)) fixedWithinUptoCard

/-- THE SECOND FORM's CARD OF 'tocsinlaw01.FixedSigns'. -/
def fixedSignsUptoCard : Claim7 := { stood := { row := fixedSignsUptoRow, standIns := [], harness := (true, "3d1314d90843e6a2eb5ad4113d4fe6ca5daa94c235d2a5709f4625016529c0e5"), looks := false }, kinds := [], alts := [], laidByText := true, laidKinds := [.data, .data, .data, .data, .pinned], laidTests := true, laidLooks := .later }
def FixedSignsUptoCardSaid : Prop := Claim7.holds Tryd.pinned (.plain (OpenSpec.upto fixedSignsSpec)) fixedSignsUptoCard
end Rows
end Go.Proofs.YtpmehejlamddeaaDoor
