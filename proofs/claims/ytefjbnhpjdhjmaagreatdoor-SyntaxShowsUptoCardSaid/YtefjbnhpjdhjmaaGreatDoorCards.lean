/-
  DERIVED. GIVEN WITH THE SEED: THE CARDS: each row of YtefjbnhpjdhjmaaGreatDoorRows.lean that lists a variable, with what it lists TIED to the program's text (the seventh form; the later family's looks); each row that meets fmt, with fmt's text TOLD by the authors' own Lean function (tested against real Go, not proved from fmt's source: count such statements apart). THE CARD IS WHAT COUNTS. Prove the row's statement (the work); the ties are given (YtefjbnhpjdhjmaaGreatDoorTie.lean); close each card by the builder's one call (the guide's Derived/Test/ToyasCard.lean, 'card_holds'). Laid BY PROGRAM, IN A SANDBOX (cutbox-door.mjs). By AI agents, Wed Nov 11 2026. No macro, syntax, notation, axiom, sorry.
-/
import Derived.Test.YtefjbnhpjdhjmaaGreatDoorRows
import GoSem.ClaimSeven
namespace Go.Proofs.YtefjbnhpjdhjmaaGreatDoor
namespace Rows

/-- THE TIED CARD OF 'scanfaillaw10.SyntaxTurns'. -/
def syntaxTurnsCard : Claim7 := { stood := { row := syntaxTurnsRow, standIns := [], harness := (true, "e8866761ae8c5660533fc91d5213368792c7ed38b6587bda3f3dec1de0eb53f4"), looks := true }, kinds := [], alts := [], laidByText := true, laidKinds := [.data, .data, .data, .data, .sentinel, .sentinel, .pinned], laidTests := true, laidLooks := .later }
def SyntaxTurnsCardSaid : Prop := Claim7.holds Tryz.pinned (.plain (OpenSpec.ofChange syntaxTurnsSpec)) syntaxTurnsCard

/-- THE TIED CARD OF 'scanfaillaw10.SyntaxShows'. -/
def syntaxShowsCard : Claim7 := { stood := { row := syntaxShowsRow, standIns := [], harness := (true, "e8866761ae8c5660533fc91d5213368792c7ed38b6587bda3f3dec1de0eb53f4"), looks := true }, kinds := [], alts := [], laidByText := true, laidKinds := [.data, .data, .data, .data, .sentinel, .sentinel, .pinned], laidTests := true, laidLooks := .later }
def SyntaxShowsCardSaid : Prop := Claim7.holds Tryz.pinned (.plain (OpenSpec.ofChange syntaxShowsSpec)) syntaxShowsCard

/-- THE SECOND FORM's CARD OF 'scanfaillaw10.SyntaxTurns'. -/
def syntaxTurnsUptoCard : Claim7 := { stood := { row := syntaxTurnsUptoRow, standIns := [], harness := (true, "e8866761ae8c5660533fc91d5213368792c7ed38b6587bda3f3dec1de0eb53f4"), looks := true }, kinds := [], alts := [], laidByText := true, laidKinds := [.data, .data, .data, .data, .sentinel, .sentinel, .pinned], laidTests := true, laidLooks := .later }
def SyntaxTurnsUptoCardSaid : Prop := Claim7.holds Tryz.pinned (.plain (OpenSpec.upto syntaxTurnsSpec)) syntaxTurnsUptoCard

/-- THE SECOND FORM's CARD OF 'scanfaillaw10.SyntaxShows'. -/
def syntaxShowsUptoCard : Claim7 := { stood := { row := syntaxShowsUptoRow, standIns := [], harness := (true, "e8866761ae8c5660533fc91d5213368792c7ed38b6587bda3f3dec1de0eb53f4"), looks := true }, kinds := [], alts := [], laidByText := true, laidKinds := [.data, .data, .data, .data, .sentinel, .sentinel, .pinned], laidTests := true, laidLooks := .later }
def SyntaxShowsUptoCardSaid : Prop := Claim7.holds Tryz.pinned (.plain (OpenSpec.upto syntaxShowsSpec)) syntaxShowsUptoCard
end Rows
end Go.Proofs.YtefjbnhpjdhjmaaGreatDoor
