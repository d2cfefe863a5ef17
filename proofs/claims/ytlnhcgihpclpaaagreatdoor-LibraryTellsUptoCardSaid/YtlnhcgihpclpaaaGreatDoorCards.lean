/-
  DERIVED. GIVEN WITH THE SEED: THE CARDS: each row of YtlnhcgihpclpaaaGreatDoorRows.lean that lists a variable, with what it lists TIED to the program's text (the seventh form; the later family's looks); each row that meets fmt, with fmt's text TOLD by the authors' own Lean function (tested against real Go, not proved from fmt's source: count such statements apart). THE CARD IS WHAT COUNTS. Prove the row's statement (the work); the ties are given (YtlnhcgihpclpaaaGreatDoorTie.lean); close each card by the builder's one call (the guide's Derived/Test/ToyasCard.lean, 'card_holds'). Laid BY PROGRAM, IN A SANDBOX (cutbox-door.mjs). By AI agents, Wed Nov 11 2026. No macro, syntax, notation, axiom, sorry.
-/
import Derived.Test.YtlnhcgihpclpaaaGreatDoorRows
import GoSem.ClaimSeven
namespace Go.Proofs.YtlnhcgihpclpaaaGreatDoor
namespace Rows

/-- THE TIED CARD OF 'scanfaillaw16.LibraryTells'. -/
def libraryTellsCard : Claim7 := { stood := { row := libraryTellsRow, standIns := [], harness := (true, "6e9114835372ddf80f6deaac8ebcda59ff7084e52274ba83494b74aba9e921c1"), looks := true }, kinds := [], alts := [], laidByText := true, laidKinds := [.data, .data, .data, .data, .sentinel, .sentinel, .pinned], laidTests := true, laidLooks := .later }
def LibraryTellsCardSaid : Prop := Claim7.holds Tryz.pinned (.plain (OpenSpec.ofChange libraryTellsSpec)) libraryTellsCard

/-- THE SECOND FORM's CARD OF 'scanfaillaw16.LibraryTells'. -/
def libraryTellsUptoCard : Claim7 := { stood := { row := libraryTellsUptoRow, standIns := [], harness := (true, "6e9114835372ddf80f6deaac8ebcda59ff7084e52274ba83494b74aba9e921c1"), looks := true }, kinds := [], alts := [], laidByText := true, laidKinds := [.data, .data, .data, .data, .sentinel, .sentinel, .pinned], laidTests := true, laidLooks := .later }
def LibraryTellsUptoCardSaid : Prop := Claim7.holds Tryz.pinned (.plain (OpenSpec.upto libraryTellsSpec)) libraryTellsUptoCard
end Rows
end Go.Proofs.YtlnhcgihpclpaaaGreatDoor
