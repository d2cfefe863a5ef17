/-  -/
import Derived.Test.YtgoijmpahffnhaaGreatDoorLrJ
import Derived.Test.YtgoijmpahffnhaaGreatDoorRows
import Derived.JoinedCond
namespace Go.Proofs.YtgoijmpahffnhaaGreatDoor
set_option linter.all false
open Go
theorem adq:Rows.libraryCatUptoRow.wf (OpenSpec.ofChange (Rows.OpenSpec.upto Rows.libraryCatSpec).bare)=true:=by kernel_rfl
theorem adr:Tryz.f3.params.all (Tryz.pinned.checked.prog.readableRec ·)=true:=by kernel_rfl
theorem ads:namedTie Tryz.pinned.checked.prog Rows.libraryCatUptoRow.named (Rows.OpenSpec.upto Rows.libraryCatSpec).bare.vars=true:=by kernel_rfl
theorem adt:(Rows.libraryCatUptoRow.stops==[])=true:=by kernel_rfl
theorem adu:(Rows.libraryCatUptoRow.knobs==[])=true:=by kernel_rfl
theorem adv:(Rows.libraryCatUptoRow.inPlace==Tryz.pinned.checked.prog.inPlace 3)=true:=by kernel_rfl
theorem aby:(Rows.libraryCatUptoRow.unfollowed==Tryz.pinned.checked.prog.unfollowed 3)=true:=by kernel_rfl
theorem abz:(Rows.libraryCatUptoRow.recurses==Tryz.pinned.checked.prog.recurses 3)=true:=by kernel_rfl
theorem abA:(Rows.libraryCatUptoRow.named==Tryz.pinned.checked.prog.varsNamed 3)=true:=by kernel_rfl
theorem abB:(Rows.libraryCatUptoRow.maps==(Tryz.f3.params.toList++(Rows.OpenSpec.upto Rows.libraryCatSpec).bare.plain.varTypes Tryz.pinned.checked.prog).any (Tryz.pinned.checked.prog.mapsRec ·))=true:=by kernel_rfl
theorem abC:(Rows.libraryCatUptoRow.ifaces==(Tryz.f3.params.toList++(Rows.OpenSpec.upto Rows.libraryCatSpec).bare.plain.varTypes Tryz.pinned.checked.prog).any (Tryz.pinned.checked.prog.ifacesRec ·))=true:=by kernel_rfl
theorem abD:(Rows.libraryCatUptoRow.mapsOut==Tryz.pinned.checked.prog.mapsAmong Tryz.f3.resultTypes.toList)=true:=by kernel_rfl
theorem abE:(Rows.libraryCatUptoRow.loops==(Tryz.f3.params.toList++(Rows.OpenSpec.upto Rows.libraryCatSpec).bare.plain.varTypes Tryz.pinned.checked.prog).any (Tryz.pinned.checked.prog.loopsFrom ·))=true:=by kernel_rfl
theorem abG:(Rows.libraryCatUptoRow.wideKeys==(Tryz.f3.params.toList++(Rows.OpenSpec.upto Rows.libraryCatSpec).bare.plain.varTypes Tryz.pinned.checked.prog++Tryz.f3.resultTypes.toList).any (Tryz.pinned.checked.prog.wideKeysFrom ·))=true:=by kernel_rfl
theorem abH:(Rows.OpenSpec.upto Rows.libraryCatSpec).bare.vars.all (Tryz.pinned.checked.prog.varReadable ·)=true:=by kernel_rfl
theorem abI:Tryz.f3.resultTypes.all (fun t=>Tryz.pinned.checked.prog.readableRec t&&decide (t<Tryz.pinned.checked.prog.types.size))=true:=by kernel_rfl
theorem abJ:(Rows.libraryCatUptoRow.ifacesOut==Tryz.f3.resultTypes.toList.any (Tryz.pinned.checked.prog.ifacesRec ·))=true:=by kernel_rfl
theorem abK:(Rows.libraryCatUptoRow.loopsOut==Tryz.f3.resultTypes.toList.any (Tryz.pinned.checked.prog.loopsFrom ·))=true:=by kernel_rfl
theorem abL:(Rows.libraryCatUptoRow.plainKeys==Tryz.pinned.checked.prog.plainKeys)=true:=by kernel_rfl
theorem abM:Rows.libraryCatUptoRow.shortTexts.isNone=true:=by kernel_rfl
theorem abN:(Rows.libraryCatUptoRow.lifted==Tryz.pinned.checked.prog.liftsFinal)=true:=by kernel_rfl
theorem abO:(Tryz.pinned.checked.prog.make==some Rows.libraryCatUptoRow.make)=true:=by kernel_rfl
theorem abP:(Rows.libraryCatUptoRow.pinned==Rows.libraryCatUptoRow.pinnedBy)=true:=by kernel_rfl
theorem abQ:(Rows.libraryCatUptoRow.veiled==(Tryz.f3.params.toList++(Rows.OpenSpec.upto Rows.libraryCatSpec).bare.plain.varTypes Tryz.pinned.checked.prog++Tryz.f3.resultTypes.toList).any (Tryz.pinned.checked.prog.veiledRec ·))=true:=by kernel_rfl
theorem abR:Rows.libraryCatUptoRow.veiledFits Tryz.pinned.checked.prog Tryz.f3.params.toList (Tryz.f3.params.toList++(Rows.OpenSpec.upto Rows.libraryCatSpec).bare.plain.varTypes Tryz.pinned.checked.prog++Tryz.f3.resultTypes.toList)=true:=by kernel_rfl
theorem Td:joinedFacts Tryz.pinned.checked.prog 3 Tryz.f3 (Rows.OpenSpec.upto Rows.libraryCatSpec).bare Rows.libraryCatUptoRow=true:=by
 unfold joinedFacts
 with_reducible refine lG (lG (lG (lG (lG (lG (lG (lG (lG (lG (lG (lG (lG (lG (lG (lG (lG (lG (lG (lG (lG (lG (lG (lG (lG (lG (lG (lG (lG (lG (lG adq jp1) jp2) adr) ads) adt) jp6) adu) jp8) adv) aby) abz) abA) abB) abC) abD) abE) abG) abH) abI) abJ) abK) abL) abM) agP) agQ) abN) abO) ?_) abP) abQ) abR
 kernel_rfl
end Go.Proofs.YtgoijmpahffnhaaGreatDoor
