/-
  DERIVED. GIVEN WITH THE SEED: THE CARDS: each row of YtodebjhalipefaaGreatDoorRows.lean that lists a variable, with what it lists TIED to the program's text (the seventh form; the later family's looks); each row that meets fmt, with fmt's text TOLD by the authors' own Lean function (tested against real Go, not proved from fmt's source: count such statements apart). THE CARD IS WHAT COUNTS. Prove the row's statement (the work); the ties are given (YtodebjhalipefaaGreatDoorTie.lean); close each card by the builder's one call (the guide's Derived/Test/ToyasCard.lean, 'card_holds'). Laid BY PROGRAM, IN A SANDBOX (cutbox-door.mjs). By AI agents, Wed Nov 11 2026. No macro, syntax, notation, axiom, sorry.
-/
import Derived.Test.YtodebjhalipefaaGreatDoorRows
import GoSem.ClaimSeven
namespace Go.Proofs.YtodebjhalipefaaGreatDoor
namespace Rows

/-- THE TIED CARD OF 'scanfaillaw16.LibraryCount'. -/
def libraryCountCard : Claim7 := { stood := { row := libraryCountRow, standIns := [], harness := (true, "bd7023a3cb243dc445932ea665963d5a6976c391eed1e9110639624625d173b4"), looks := true }, kinds := [], alts := [], laidByText := true, laidKinds := [.data, .data, .data, .data, .sentinel, .sentinel, .pinned], laidTests := true, laidLooks := .later }
def LibraryCountCardSaid : Prop := Claim7.holds Tryz.pinned (.plain (OpenSpec.ofChange libraryCountSpec)) libraryCountCard

/-- THE TIED CARD OF 'scanfaillaw16.LibraryUnique'. -/
def libraryUniqueCard : Claim7 := { stood := { row := libraryUniqueRow, standIns := [], harness := (true, "bd7023a3cb243dc445932ea665963d5a6976c391eed1e9110639624625d173b4"), looks := true }, kinds := [], alts := [], laidByText := true, laidKinds := [.data, .data, .data, .data, .sentinel, .sentinel, .pinned], laidTests := true, laidLooks := .later }
def LibraryUniqueCardSaid : Prop := Claim7.holds Tryz.pinned (.plain (OpenSpec.ofChange libraryUniqueSpec)) libraryUniqueCard

/-- THE SECOND FORM's CARD OF 'scanfaillaw16.LibraryCount'. -/
def libraryCountUptoCard : Claim7 := { stood := { row := libraryCountUptoRow, standIns := [], harness := (true, "bd7023a3cb243dc445932ea665963d5a6976c391eed1e9110639624625d173b4"), looks := true }, kinds := [], alts := [], laidByText := true, laidKinds := [.data, .data, .data, .data, .sentinel, .sentinel, .pinned], laidTests := true, laidLooks := .later }
def LibraryCountUptoCardSaid : Prop := Claim7.holds Tryz.pinned (.plain (OpenSpec.upto libraryCountSpec)) libraryCountUptoCard

/-- THE SECOND FORM's CARD OF 'scanfaillaw16.LibraryUnique'. -/
def libraryUniqueUptoCard : Claim7 := { stood := { row := libraryUniqueUptoRow, standIns := [], harness := (true, "bd7023a3cb243dc445932ea665963d5a6976c391eed1e9110639624625d173b4"), looks := true }, kinds := [], alts := [], laidByText := true, laidKinds := [.data, .data, .data, .data, .sentinel, .sentinel, .pinned], laidTests := true, laidLooks := .later }
def LibraryUniqueUptoCardSaid : Prop := Claim7.holds Tryz.pinned (.plain (OpenSpec.upto libraryUniqueSpec)) libraryUniqueUptoCard
end Rows
end Go.Proofs.YtodebjhalipefaaGreatDoor
