/-  -/
import Derived.Test.YtgoijmpahffnhaaGreatDoorLrJ
import Derived.Test.YtgoijmpahffnhaaGreatDoorRows
import Derived.JoinedCond
namespace Go.Proofs.YtgoijmpahffnhaaGreatDoor
set_option linter.all false
open Go
theorem acs:Rows.libraryUpperUptoRow.wf (OpenSpec.ofChange (Rows.OpenSpec.upto Rows.libraryUpperSpec).bare)=true:=by kernel_rfl
theorem acu:Tryz.f8.params.all (Tryz.pinned.checked.prog.readableRec ·)=true:=by kernel_rfl
theorem acv:namedTie Tryz.pinned.checked.prog Rows.libraryUpperUptoRow.named (Rows.OpenSpec.upto Rows.libraryUpperSpec).bare.vars=true:=by kernel_rfl
theorem acw:(Rows.libraryUpperUptoRow.stops==[])=true:=by kernel_rfl
theorem acy:(Rows.libraryUpperUptoRow.knobs==[])=true:=by kernel_rfl
theorem acz:(Rows.libraryUpperUptoRow.inPlace==Tryz.pinned.checked.prog.inPlace 8)=true:=by kernel_rfl
theorem YW:(Rows.libraryUpperUptoRow.unfollowed==Tryz.pinned.checked.prog.unfollowed 8)=true:=by kernel_rfl
theorem YX:(Rows.libraryUpperUptoRow.recurses==Tryz.pinned.checked.prog.recurses 8)=true:=by kernel_rfl
theorem YZ:(Rows.libraryUpperUptoRow.named==Tryz.pinned.checked.prog.varsNamed 8)=true:=by kernel_rfl
theorem Y0:(Rows.libraryUpperUptoRow.maps==(Tryz.f8.params.toList++(Rows.OpenSpec.upto Rows.libraryUpperSpec).bare.plain.varTypes Tryz.pinned.checked.prog).any (Tryz.pinned.checked.prog.mapsRec ·))=true:=by kernel_rfl
theorem Y1:(Rows.libraryUpperUptoRow.ifaces==(Tryz.f8.params.toList++(Rows.OpenSpec.upto Rows.libraryUpperSpec).bare.plain.varTypes Tryz.pinned.checked.prog).any (Tryz.pinned.checked.prog.ifacesRec ·))=true:=by kernel_rfl
theorem Y3:(Rows.libraryUpperUptoRow.mapsOut==Tryz.pinned.checked.prog.mapsAmong Tryz.f8.resultTypes.toList)=true:=by kernel_rfl
theorem Y5:(Rows.libraryUpperUptoRow.loops==(Tryz.f8.params.toList++(Rows.OpenSpec.upto Rows.libraryUpperSpec).bare.plain.varTypes Tryz.pinned.checked.prog).any (Tryz.pinned.checked.prog.loopsFrom ·))=true:=by kernel_rfl
theorem Y6:(Rows.libraryUpperUptoRow.wideKeys==(Tryz.f8.params.toList++(Rows.OpenSpec.upto Rows.libraryUpperSpec).bare.plain.varTypes Tryz.pinned.checked.prog++Tryz.f8.resultTypes.toList).any (Tryz.pinned.checked.prog.wideKeysFrom ·))=true:=by kernel_rfl
theorem Y7:(Rows.OpenSpec.upto Rows.libraryUpperSpec).bare.vars.all (Tryz.pinned.checked.prog.varReadable ·)=true:=by kernel_rfl
theorem Y8:Tryz.f8.resultTypes.all (fun t=>Tryz.pinned.checked.prog.readableRec t&&decide (t<Tryz.pinned.checked.prog.types.size))=true:=by kernel_rfl
theorem Y9:(Rows.libraryUpperUptoRow.ifacesOut==Tryz.f8.resultTypes.toList.any (Tryz.pinned.checked.prog.ifacesRec ·))=true:=by kernel_rfl
theorem Za:(Rows.libraryUpperUptoRow.loopsOut==Tryz.f8.resultTypes.toList.any (Tryz.pinned.checked.prog.loopsFrom ·))=true:=by kernel_rfl
theorem Zb:(Rows.libraryUpperUptoRow.plainKeys==Tryz.pinned.checked.prog.plainKeys)=true:=by kernel_rfl
theorem Zc:Rows.libraryUpperUptoRow.shortTexts.isNone=true:=by kernel_rfl
theorem Zd:(Rows.libraryUpperUptoRow.lifted==Tryz.pinned.checked.prog.liftsFinal)=true:=by kernel_rfl
theorem Ze:(Tryz.pinned.checked.prog.make==some Rows.libraryUpperUptoRow.make)=true:=by kernel_rfl
theorem Zf:(Rows.libraryUpperUptoRow.pinned==Rows.libraryUpperUptoRow.pinnedBy)=true:=by kernel_rfl
theorem Zg:(Rows.libraryUpperUptoRow.veiled==(Tryz.f8.params.toList++(Rows.OpenSpec.upto Rows.libraryUpperSpec).bare.plain.varTypes Tryz.pinned.checked.prog++Tryz.f8.resultTypes.toList).any (Tryz.pinned.checked.prog.veiledRec ·))=true:=by kernel_rfl
theorem Zh:Rows.libraryUpperUptoRow.veiledFits Tryz.pinned.checked.prog Tryz.f8.params.toList (Tryz.f8.params.toList++(Rows.OpenSpec.upto Rows.libraryUpperSpec).bare.plain.varTypes Tryz.pinned.checked.prog++Tryz.f8.resultTypes.toList)=true:=by kernel_rfl
theorem OY:joinedFacts Tryz.pinned.checked.prog 8 Tryz.f8 (Rows.OpenSpec.upto Rows.libraryUpperSpec).bare Rows.libraryUpperUptoRow=true:=by
 unfold joinedFacts
 with_reducible refine aP (aP (aP (aP (aP (aP (aP (aP (aP (aP (aP (aP (aP (aP (aP (aP (aP (aP (aP (aP (aP (aP (aP (aP (aP (aP (aP (aP (aP (aP (aP acs jp1) Yx) acu) acv) acw) Yy) acy) Yz) acz) YW) YX) YZ) Y0) Y1) Y3) Y5) Y6) Y7) Y8) Y9) Za) Zb) Zc) Ox) Oy) Zd) Ze) ?_) Zf) Zg) Zh
 kernel_rfl
end Go.Proofs.YtgoijmpahffnhaaGreatDoor
