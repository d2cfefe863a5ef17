/-  -/
import Derived.Test.YtefjbnhpjdhjmaaGreatDoorPs30
import Derived.Test.YtefjbnhpjdhjmaaGreatDoorShelf
import Derived.Test.YtefjbnhpjdhjmaaGreatDoorTm19
namespace Go.Proofs.YtefjbnhpjdhjmaaGreatDoor
set_option linter.all false
open Go.RowKit
theorem Y8 {w w2:World} (h:nV w) (k:Kept aF w w2):nV w2:=by
 obtain ⟨ev,h1,h2⟩:=h;exact ⟨ev,(k.cell (cell_lt h1) (fun h=>h)).trans h1,h2⟩
end Go.Proofs.YtefjbnhpjdhjmaaGreatDoor
