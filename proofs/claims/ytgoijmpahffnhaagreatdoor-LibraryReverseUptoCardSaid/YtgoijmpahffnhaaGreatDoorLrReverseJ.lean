/-  -/
import Derived.Test.YtgoijmpahffnhaaGreatDoorLrJ
import Derived.Test.YtgoijmpahffnhaaGreatDoorRows
import Derived.JoinedCond
namespace Go.Proofs.YtgoijmpahffnhaaGreatDoor
set_option linter.all false
open Go
theorem WG:Rows.libraryReverseUptoRow.wf (OpenSpec.ofChange (Rows.OpenSpec.upto Rows.libraryReverseSpec).bare)=true:=by kernel_rfl
theorem WH:Tryz.f4.params.all (Tryz.pinned.checked.prog.readableRec ·)=true:=by kernel_rfl
theorem WI:namedTie Tryz.pinned.checked.prog Rows.libraryReverseUptoRow.named (Rows.OpenSpec.upto Rows.libraryReverseSpec).bare.vars=true:=by kernel_rfl
theorem WJ:(Rows.libraryReverseUptoRow.stops==[])=true:=by kernel_rfl
theorem WL:(Rows.libraryReverseUptoRow.knobs==[])=true:=by kernel_rfl
theorem WM:(Rows.libraryReverseUptoRow.inPlace==Tryz.pinned.checked.prog.inPlace 4)=true:=by kernel_rfl
theorem RI:(Rows.libraryReverseUptoRow.unfollowed==Tryz.pinned.checked.prog.unfollowed 4)=true:=by kernel_rfl
theorem RJ:(Rows.libraryReverseUptoRow.recurses==Tryz.pinned.checked.prog.recurses 4)=true:=by kernel_rfl
theorem RN:(Rows.libraryReverseUptoRow.named==Tryz.pinned.checked.prog.varsNamed 4)=true:=by kernel_rfl
theorem RP:(Rows.libraryReverseUptoRow.maps==(Tryz.f4.params.toList++(Rows.OpenSpec.upto Rows.libraryReverseSpec).bare.plain.varTypes Tryz.pinned.checked.prog).any (Tryz.pinned.checked.prog.mapsRec ·))=true:=by kernel_rfl
theorem RQ:(Rows.libraryReverseUptoRow.ifaces==(Tryz.f4.params.toList++(Rows.OpenSpec.upto Rows.libraryReverseSpec).bare.plain.varTypes Tryz.pinned.checked.prog).any (Tryz.pinned.checked.prog.ifacesRec ·))=true:=by kernel_rfl
theorem RS:(Rows.libraryReverseUptoRow.mapsOut==Tryz.pinned.checked.prog.mapsAmong Tryz.f4.resultTypes.toList)=true:=by kernel_rfl
theorem RU:(Rows.libraryReverseUptoRow.loops==(Tryz.f4.params.toList++(Rows.OpenSpec.upto Rows.libraryReverseSpec).bare.plain.varTypes Tryz.pinned.checked.prog).any (Tryz.pinned.checked.prog.loopsFrom ·))=true:=by kernel_rfl
theorem RV:(Rows.libraryReverseUptoRow.wideKeys==(Tryz.f4.params.toList++(Rows.OpenSpec.upto Rows.libraryReverseSpec).bare.plain.varTypes Tryz.pinned.checked.prog++Tryz.f4.resultTypes.toList).any (Tryz.pinned.checked.prog.wideKeysFrom ·))=true:=by kernel_rfl
theorem RY:(Rows.OpenSpec.upto Rows.libraryReverseSpec).bare.vars.all (Tryz.pinned.checked.prog.varReadable ·)=true:=by kernel_rfl
theorem RZ:Tryz.f4.resultTypes.all (fun t=>Tryz.pinned.checked.prog.readableRec t&&decide (t<Tryz.pinned.checked.prog.types.size))=true:=by kernel_rfl
theorem Si:(Rows.libraryReverseUptoRow.ifacesOut==Tryz.f4.resultTypes.toList.any (Tryz.pinned.checked.prog.ifacesRec ·))=true:=by kernel_rfl
theorem Sl:(Rows.libraryReverseUptoRow.loopsOut==Tryz.f4.resultTypes.toList.any (Tryz.pinned.checked.prog.loopsFrom ·))=true:=by kernel_rfl
theorem Sm:(Rows.libraryReverseUptoRow.plainKeys==Tryz.pinned.checked.prog.plainKeys)=true:=by kernel_rfl
theorem Sr:Rows.libraryReverseUptoRow.shortTexts.isNone=true:=by kernel_rfl
theorem Sv:(Rows.libraryReverseUptoRow.lifted==Tryz.pinned.checked.prog.liftsFinal)=true:=by kernel_rfl
theorem Sz:(Tryz.pinned.checked.prog.make==some Rows.libraryReverseUptoRow.make)=true:=by kernel_rfl
theorem SA:(Rows.libraryReverseUptoRow.pinned==Rows.libraryReverseUptoRow.pinnedBy)=true:=by kernel_rfl
theorem SB:(Rows.libraryReverseUptoRow.veiled==(Tryz.f4.params.toList++(Rows.OpenSpec.upto Rows.libraryReverseSpec).bare.plain.varTypes Tryz.pinned.checked.prog++Tryz.f4.resultTypes.toList).any (Tryz.pinned.checked.prog.veiledRec ·))=true:=by kernel_rfl
theorem SC:Rows.libraryReverseUptoRow.veiledFits Tryz.pinned.checked.prog Tryz.f4.params.toList (Tryz.f4.params.toList++(Rows.OpenSpec.upto Rows.libraryReverseSpec).bare.plain.varTypes Tryz.pinned.checked.prog++Tryz.f4.resultTypes.toList)=true:=by kernel_rfl
theorem JR:joinedFacts Tryz.pinned.checked.prog 4 Tryz.f4 (Rows.OpenSpec.upto Rows.libraryReverseSpec).bare Rows.libraryReverseUptoRow=true:=by
 unfold joinedFacts
 with_reducible refine aP (aP (aP (aP (aP (aP (aP (aP (aP (aP (aP (aP (aP (aP (aP (aP (aP (aP (aP (aP (aP (aP (aP (aP (aP (aP (aP (aP (aP (aP (aP WG jp1) Yx) WH) WI) WJ) Yy) WL) Yz) WM) RI) RJ) RN) RP) RQ) RS) RU) RV) RY) RZ) Si) Sl) Sm) Sr) Ox) Oy) Sv) Sz) ?_) SA) SB) SC
 kernel_rfl
end Go.Proofs.YtgoijmpahffnhaaGreatDoor
