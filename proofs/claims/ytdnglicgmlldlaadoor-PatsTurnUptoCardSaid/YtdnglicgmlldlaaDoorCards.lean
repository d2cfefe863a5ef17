/-
  DERIVED. GIVEN WITH THE SEED: THE CARDS: each row of YtdnglicgmlldlaaDoorRows.lean that lists a variable, with what it lists TIED to the program's text (the seventh form; the later family's looks); each row that meets fmt, with fmt's text TOLD by the authors' own Lean function (tested against real Go, not proved from fmt's source: count such statements apart). THE CARD IS WHAT COUNTS. Prove the row's statement (the work); the ties are given (YtdnglicgmlldlaaDoorTie.lean); close each card by the builder's one call (the guide's Derived/Test/ToyasCard.lean, 'card_holds'). Laid BY PROGRAM, IN A SANDBOX (cutbox-door.mjs). By AI agents, Wed Nov 11 2026. No macro, syntax, notation, axiom, sorry.
-/
import Derived.Test.YtdnglicgmlldlaaDoorRows
import GoSem.ClaimSeven
namespace Go.Proofs.YtdnglicgmlldlaaDoor
namespace Rows

/-- THE TIED CARD OF 'scanfaillaw4.PatsPrint'. -/
def patsPrintCard : Claim7 := { stood := { row := patsPrintRow, standIns := [], harness := (true, "c0468109b9b484d81754d471c234431f05279204a4ed6d6655cd2f3c63533829"), looks := true }, kinds := [], alts := [], laidByText := true, laidKinds := [.data, .data, .data, .data, .pinned], laidTests := true, laidLooks := .later }
def PatsPrintCardSaid : Prop := Claim7.holds Tryd.pinned (.plain (OpenSpec.ofChange patsPrintSpec)) patsPrintCard

/-- THE TIED CARD OF 'scanfaillaw4.PatsTurn'. -/
def patsTurnCard : Claim7 := { stood := { row := patsTurnRow, standIns := [], harness := (true, "c0468109b9b484d81754d471c234431f05279204a4ed6d6655cd2f3c63533829"), looks := true }, kinds := [], alts := [], laidByText := true, laidKinds := [.data, .data, .data, .data, .pinned], laidTests := true, laidLooks := .later }
def PatsTurnCardSaid : Prop := Claim7.holds Tryd.pinned (.plain (OpenSpec.ofChange patsTurnSpec)) patsTurnCard

/-- THE SECOND FORM's CARD OF 'scanfaillaw4.PatsPrint'. -/
def patsPrintUptoCard : Claim7 := { stood := { row := patsPrintUptoRow, standIns := [], harness := (true, "c0468109b9b484d81754d471c234431f05279204a4ed6d6655cd2f3c63533829"), looks := true }, kinds := [], alts := [], laidByText := true, laidKinds := [.data, .data, .data, .data, .pinned], laidTests := true, laidLooks := .later }
def PatsPrintUptoCardSaid : Prop := Claim7.holds Tryd.pinned (.plain (OpenSpec.upto patsPrintSpec)) patsPrintUptoCard

/-- THE SECOND FORM's CARD OF 'scanfaillaw4.PatsTurn'. -/
def patsTurnUptoCard : Claim7 := { stood := { row := patsTurnUptoRow, standIns := [], harness := (true, "c0468109b9b484d81754d471c234431f05279204a4ed6d6655cd2f3c63533829"), looks := true }, kinds := [], alts := [], laidByText := true, laidKinds := [.data, .data, .data, .data, .pinned], laidTests := true, laidLooks := .later }
def PatsTurnUptoCardSaid : Prop := Claim7.holds Tryd.pinned (.plain (OpenSpec.upto patsTurnSpec)) patsTurnUptoCard
end Rows
end Go.Proofs.YtdnglicgmlldlaaDoor
