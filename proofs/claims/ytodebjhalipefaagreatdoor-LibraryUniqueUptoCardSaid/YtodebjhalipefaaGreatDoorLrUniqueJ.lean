/-  -/
import Derived.Test.YtodebjhalipefaaGreatDoorLrJ
import Derived.Test.YtodebjhalipefaaGreatDoorRows
import Derived.JoinedCond
namespace Go.Proofs.YtodebjhalipefaaGreatDoor
set_option linter.all false
open Go
theorem Xy:Rows.libraryUniqueUptoRow.wf (OpenSpec.ofChange (Rows.OpenSpec.upto Rows.libraryUniqueSpec).bare)=true:=by kernel_rfl
theorem Xz:Tryz.f4.params.all (Tryz.pinned.checked.prog.readableRec ·)=true:=by kernel_rfl
theorem XA:namedTie Tryz.pinned.checked.prog Rows.libraryUniqueUptoRow.named (Rows.OpenSpec.upto Rows.libraryUniqueSpec).bare.vars=true:=by kernel_rfl
theorem XB:(Rows.libraryUniqueUptoRow.stops==[])=true:=by kernel_rfl
theorem XC:(Rows.libraryUniqueUptoRow.knobs==[])=true:=by kernel_rfl
theorem XD:(Rows.libraryUniqueUptoRow.inPlace==Tryz.pinned.checked.prog.inPlace 4)=true:=by kernel_rfl
theorem Uy:(Rows.libraryUniqueUptoRow.unfollowed==Tryz.pinned.checked.prog.unfollowed 4)=true:=by kernel_rfl
theorem Uz:(Rows.libraryUniqueUptoRow.recurses==Tryz.pinned.checked.prog.recurses 4)=true:=by kernel_rfl
theorem UA:(Rows.libraryUniqueUptoRow.named==Tryz.pinned.checked.prog.varsNamed 4)=true:=by kernel_rfl
theorem UC:(Rows.libraryUniqueUptoRow.maps==(Tryz.f4.params.toList++(Rows.OpenSpec.upto Rows.libraryUniqueSpec).bare.plain.varTypes Tryz.pinned.checked.prog).any (Tryz.pinned.checked.prog.mapsRec ·))=true:=by kernel_rfl
theorem UD:(Rows.libraryUniqueUptoRow.ifaces==(Tryz.f4.params.toList++(Rows.OpenSpec.upto Rows.libraryUniqueSpec).bare.plain.varTypes Tryz.pinned.checked.prog).any (Tryz.pinned.checked.prog.ifacesRec ·))=true:=by kernel_rfl
theorem UE:(Rows.libraryUniqueUptoRow.mapsOut==Tryz.pinned.checked.prog.mapsAmong Tryz.f4.resultTypes.toList)=true:=by kernel_rfl
theorem UF:(Rows.libraryUniqueUptoRow.loops==(Tryz.f4.params.toList++(Rows.OpenSpec.upto Rows.libraryUniqueSpec).bare.plain.varTypes Tryz.pinned.checked.prog).any (Tryz.pinned.checked.prog.loopsFrom ·))=true:=by kernel_rfl
theorem UG:(Rows.libraryUniqueUptoRow.wideKeys==(Tryz.f4.params.toList++(Rows.OpenSpec.upto Rows.libraryUniqueSpec).bare.plain.varTypes Tryz.pinned.checked.prog++Tryz.f4.resultTypes.toList).any (Tryz.pinned.checked.prog.wideKeysFrom ·))=true:=by kernel_rfl
theorem UH:(Rows.OpenSpec.upto Rows.libraryUniqueSpec).bare.vars.all (Tryz.pinned.checked.prog.varReadable ·)=true:=by kernel_rfl
theorem UJ:Tryz.f4.resultTypes.all (fun t=>Tryz.pinned.checked.prog.readableRec t&&decide (t<Tryz.pinned.checked.prog.types.size))=true:=by kernel_rfl
theorem UK:(Rows.libraryUniqueUptoRow.ifacesOut==Tryz.f4.resultTypes.toList.any (Tryz.pinned.checked.prog.ifacesRec ·))=true:=by kernel_rfl
theorem UL:(Rows.libraryUniqueUptoRow.loopsOut==Tryz.f4.resultTypes.toList.any (Tryz.pinned.checked.prog.loopsFrom ·))=true:=by kernel_rfl
theorem UM:(Rows.libraryUniqueUptoRow.plainKeys==Tryz.pinned.checked.prog.plainKeys)=true:=by kernel_rfl
theorem UN:Rows.libraryUniqueUptoRow.shortTexts.isNone=true:=by kernel_rfl
theorem UO:(Rows.libraryUniqueUptoRow.lifted==Tryz.pinned.checked.prog.liftsFinal)=true:=by kernel_rfl
theorem UQ:(Tryz.pinned.checked.prog.make==some Rows.libraryUniqueUptoRow.make)=true:=by kernel_rfl
theorem UR:(Rows.libraryUniqueUptoRow.pinned==Rows.libraryUniqueUptoRow.pinnedBy)=true:=by kernel_rfl
theorem UU:(Rows.libraryUniqueUptoRow.veiled==(Tryz.f4.params.toList++(Rows.OpenSpec.upto Rows.libraryUniqueSpec).bare.plain.varTypes Tryz.pinned.checked.prog++Tryz.f4.resultTypes.toList).any (Tryz.pinned.checked.prog.veiledRec ·))=true:=by kernel_rfl
theorem UW:Rows.libraryUniqueUptoRow.veiledFits Tryz.pinned.checked.prog Tryz.f4.params.toList (Tryz.f4.params.toList++(Rows.OpenSpec.upto Rows.libraryUniqueSpec).bare.plain.varTypes Tryz.pinned.checked.prog++Tryz.f4.resultTypes.toList)=true:=by kernel_rfl
theorem LG:joinedFacts Tryz.pinned.checked.prog 4 Tryz.f4 (Rows.OpenSpec.upto Rows.libraryUniqueSpec).bare Rows.libraryUniqueUptoRow=true:=by
 unfold joinedFacts
 with_reducible refine eF (eF (eF (eF (eF (eF (eF (eF (eF (eF (eF (eF (eF (eF (eF (eF (eF (eF (eF (eF (eF (eF (eF (eF (eF (eF (eF (eF (eF (eF (eF Xy jp1) jp2) Xz) XA) XB) jp6) XC) jp8) XD) Uy) Uz) UA) UC) UD) UE) UF) UG) UH) UJ) UK) UL) UM) UN) aeO) aeP) UO) UQ) ?_) UR) UU) UW
 kernel_rfl
end Go.Proofs.YtodebjhalipefaaGreatDoor
