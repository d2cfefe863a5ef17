/-
  DERIVED. GIVEN WITH THE SEED: THE CARDS: each row of YtgoijmpahffnhaaGreatDoorRows.lean that lists a variable, with what it lists TIED to the program's text (the seventh form; the later family's looks); each row that meets fmt, with fmt's text TOLD by the authors' own Lean function (tested against real Go, not proved from fmt's source: count such statements apart). THE CARD IS WHAT COUNTS. Prove the row's statement (the work); the ties are given (YtgoijmpahffnhaaGreatDoorTie.lean); close each card by the builder's one call (the guide's Derived/Test/ToyasCard.lean, 'card_holds'). Laid BY PROGRAM, IN A SANDBOX (cutbox-door.mjs). By AI agents, Wed Nov 11 2026. No macro, syntax, notation, axiom, sorry.
-/
import Derived.Test.YtgoijmpahffnhaaGreatDoorRows
import GoSem.ClaimSeven
namespace Go.Proofs.YtgoijmpahffnhaaGreatDoor
namespace Rows

/-- THE TIED CARD OF 'scanfaillaw16.LibraryCat'. -/
def libraryCatCard : Claim7 := { stood := { row := libraryCatRow, standIns := [], harness := (true, "7ac51099b9470a35f7cb9070e60fc79b69ee96b8e61f6558c2bb6fbab32fd92e"), looks := true }, kinds := [], alts := [], laidByText := true, laidKinds := [.data, .data, .data, .data, .sentinel, .sentinel, .pinned], laidTests := true, laidLooks := .later }
def LibraryCatCardSaid : Prop := Claim7.holds Tryz.pinned (.plain (OpenSpec.ofChange libraryCatSpec)) libraryCatCard

/-- THE TIED CARD OF 'scanfaillaw16.LibraryReverse'. -/
def libraryReverseCard : Claim7 := { stood := { row := libraryReverseRow, standIns := [], harness := (true, "7ac51099b9470a35f7cb9070e60fc79b69ee96b8e61f6558c2bb6fbab32fd92e"), looks := true }, kinds := [], alts := [], laidByText := true, laidKinds := [.data, .data, .data, .data, .sentinel, .sentinel, .pinned], laidTests := true, laidLooks := .later }
def LibraryReverseCardSaid : Prop := Claim7.holds Tryz.pinned (.plain (OpenSpec.ofChange libraryReverseSpec)) libraryReverseCard

/-- THE TIED CARD OF 'scanfaillaw16.LibraryLongest'. -/
def libraryLongestCard : Claim7 := { stood := { row := libraryLongestRow, standIns := [], harness := (true, "7ac51099b9470a35f7cb9070e60fc79b69ee96b8e61f6558c2bb6fbab32fd92e"), looks := true }, kinds := [], alts := [], laidByText := true, laidKinds := [.data, .data, .data, .data, .sentinel, .sentinel, .pinned], laidTests := true, laidLooks := .later }
def LibraryLongestCardSaid : Prop := Claim7.holds Tryz.pinned (.plain (OpenSpec.ofChange libraryLongestSpec)) libraryLongestCard

/-- THE TIED CARD OF 'scanfaillaw16.LibraryMirror'. -/
def libraryMirrorCard : Claim7 := { stood := { row := libraryMirrorRow, standIns := [], harness := (true, "7ac51099b9470a35f7cb9070e60fc79b69ee96b8e61f6558c2bb6fbab32fd92e"), looks := true }, kinds := [], alts := [], laidByText := true, laidKinds := [.data, .data, .data, .data, .sentinel, .sentinel, .pinned], laidTests := true, laidLooks := .later }
def LibraryMirrorCardSaid : Prop := Claim7.holds Tryz.pinned (.plain (OpenSpec.ofChange libraryMirrorSpec)) libraryMirrorCard

/-- THE TIED CARD OF 'scanfaillaw16.LibraryCaesar'. -/
def libraryCaesarCard : Claim7 := { stood := { row := libraryCaesarRow, standIns := [], harness := (true, "7ac51099b9470a35f7cb9070e60fc79b69ee96b8e61f6558c2bb6fbab32fd92e"), looks := true }, kinds := [], alts := [], laidByText := true, laidKinds := [.data, .data, .data, .data, .sentinel, .sentinel, .pinned], laidTests := true, laidLooks := .later }
def LibraryCaesarCardSaid : Prop := Claim7.holds Tryz.pinned (.plain (OpenSpec.ofChange libraryCaesarSpec)) libraryCaesarCard

/-- THE TIED CARD OF 'scanfaillaw16.LibraryUpper'. -/
def libraryUpperCard : Claim7 := { stood := { row := libraryUpperRow, standIns := [], harness := (true, "7ac51099b9470a35f7cb9070e60fc79b69ee96b8e61f6558c2bb6fbab32fd92e"), looks := true }, kinds := [], alts := [], laidByText := true, laidKinds := [.data, .data, .data, .data, .sentinel, .sentinel, .pinned], laidTests := true, laidLooks := .later }
def LibraryUpperCardSaid : Prop := Claim7.holds Tryz.pinned (.plain (OpenSpec.ofChange libraryUpperSpec)) libraryUpperCard

/-- THE SECOND FORM's CARD OF 'scanfaillaw16.LibraryCat'. -/
def libraryCatUptoCard : Claim7 := { stood := { row := libraryCatUptoRow, standIns := [], harness := (true, "7ac51099b9470a35f7cb9070e60fc79b69ee96b8e61f6558c2bb6fbab32fd92e"), looks := true }, kinds := [], alts := [], laidByText := true, laidKinds := [.data, .data, .data, .data, .sentinel, .sentinel, .pinned], laidTests := true, laidLooks := .later }
def LibraryCatUptoCardSaid : Prop := Claim7.holds Tryz.pinned (.plain (OpenSpec.upto libraryCatSpec)) libraryCatUptoCard

/-- THE SECOND FORM's CARD OF 'scanfaillaw16.LibraryReverse'. -/
def libraryReverseUptoCard : Claim7 := { stood := { row := libraryReverseUptoRow, standIns := [], harness := (true, "7ac51099b9470a35f7cb9070e60fc79b69ee96b8e61f6558c2bb6fbab32fd92e"), looks := true }, kinds := [], alts := [], laidByText := true, laidKinds := [.data, .data, .data, .data, .sentinel, .sentinel, .pinned], laidTests := true, laidLooks := .later }
def LibraryReverseUptoCardSaid : Prop := Claim7.holds Tryz.pinned (.plain (OpenSpec.upto libraryReverseSpec)) libraryReverseUptoCard

/-- THE SECOND FORM's CARD OF 'scanfaillaw16.LibraryLongest'. -/
def libraryLongestUptoCard : Claim7 := { stood := { row := libraryLongestUptoRow, standIns := [], harness := (true, "7ac51099b9470a35f7cb9070e60fc79b69ee96b8e61f6558c2bb6fbab32fd92e"), looks := true }, kinds := [], alts := [], laidByText := true, laidKinds := [.data, .data, .data, .data, .sentinel, .sentinel, .pinned], laidTests := true, laidLooks := .later }
def LibraryLongestUptoCardSaid : Prop := Claim7.holds Tryz.pinned (.plain (OpenSpec.upto libraryLongestSpec)) libraryLongestUptoCard

/-- THE SECOND FORM's CARD OF 'scanfaillaw16.LibraryMirror'. -/
def libraryMirrorUptoCard : Claim7 := { stood := { row := libraryMirrorUptoRow, standIns := [], harness := (true, "7ac51099b9470a35f7cb9070e60fc79b69ee96b8e61f6558c2bb6fbab32fd92e"), looks := true }, kinds := [], alts := [], laidByText := true, laidKinds := [.data, .data, .data, .data, .sentinel, .sentinel, .pinned], laidTests := true, laidLooks := .later }
def LibraryMirrorUptoCardSaid : Prop := Claim7.holds Tryz.pinned (.plain (OpenSpec.upto libraryMirrorSpec)) libraryMirrorUptoCard

/-- THE SECOND FORM's CARD OF 'scanfaillaw16.LibraryCaesar'. -/
def libraryCaesarUptoCard : Claim7 := { stood := { row := libraryCaesarUptoRow, standIns := [], harness := (true, "7ac51099b9470a35f7cb9070e60fc79b69ee96b8e61f6558c2bb6fbab32fd92e"), looks := true }, kinds := [], alts := [], laidByText := true, laidKinds := [.data, .data, .data, .data, .sentinel, .sentinel, .pinned], laidTests := true, laidLooks := .later }
def LibraryCaesarUptoCardSaid : Prop := Claim7.holds Tryz.pinned (.plain (OpenSpec.upto libraryCaesarSpec)) libraryCaesarUptoCard

/-- THE SECOND FORM's CARD OF 'scanfaillaw16.LibraryUpper'. -/
def libraryUpperUptoCard : Claim7 := { stood := { row := libraryUpperUptoRow, standIns := [], harness := (true, "7ac51099b9470a35f7cb9070e60fc79b69ee96b8e61f6558c2bb6fbab32fd92e"), looks := true }, kinds := [], alts := [], laidByText := true, laidKinds := [.data, .data, .data, .data, .sentinel, .sentinel, .pinned], laidTests := true, laidLooks := .later }
def LibraryUpperUptoCardSaid : Prop := Claim7.holds Tryz.pinned (.plain (OpenSpec.upto libraryUpperSpec)) libraryUpperUptoCard
end Rows
end Go.Proofs.YtgoijmpahffnhaaGreatDoor
