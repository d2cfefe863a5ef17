/-  -/
import Derived.Test.YtgoijmpahffnhaaGreatDoorLrJ
import Derived.Test.YtgoijmpahffnhaaGreatDoorRows
import Derived.JoinedCond
namespace Go.Proofs.YtgoijmpahffnhaaGreatDoor
set_option linter.all false
open Go
theorem Yq:Rows.libraryCaesarUptoRow.wf (OpenSpec.ofChange (Rows.OpenSpec.upto Rows.libraryCaesarSpec).bare)=true:=by kernel_rfl
theorem Yr:Tryz.f7.params.all (Tryz.pinned.checked.prog.readableRec ·)=true:=by kernel_rfl
theorem Yt:namedTie Tryz.pinned.checked.prog Rows.libraryCaesarUptoRow.named (Rows.OpenSpec.upto Rows.libraryCaesarSpec).bare.vars=true:=by kernel_rfl
theorem Yu:(Rows.libraryCaesarUptoRow.stops==[])=true:=by kernel_rfl
theorem Yv:(Rows.libraryCaesarUptoRow.knobs==[])=true:=by kernel_rfl
theorem Yw:(Rows.libraryCaesarUptoRow.inPlace==Tryz.pinned.checked.prog.inPlace 7)=true:=by kernel_rfl
theorem Vm:(Rows.libraryCaesarUptoRow.unfollowed==Tryz.pinned.checked.prog.unfollowed 7)=true:=by kernel_rfl
theorem Vo:(Rows.libraryCaesarUptoRow.recurses==Tryz.pinned.checked.prog.recurses 7)=true:=by kernel_rfl
theorem Vp:(Rows.libraryCaesarUptoRow.named==Tryz.pinned.checked.prog.varsNamed 7)=true:=by kernel_rfl
theorem Vq:(Rows.libraryCaesarUptoRow.maps==(Tryz.f7.params.toList++(Rows.OpenSpec.upto Rows.libraryCaesarSpec).bare.plain.varTypes Tryz.pinned.checked.prog).any (Tryz.pinned.checked.prog.mapsRec ·))=true:=by kernel_rfl
theorem Vr:(Rows.libraryCaesarUptoRow.ifaces==(Tryz.f7.params.toList++(Rows.OpenSpec.upto Rows.libraryCaesarSpec).bare.plain.varTypes Tryz.pinned.checked.prog).any (Tryz.pinned.checked.prog.ifacesRec ·))=true:=by kernel_rfl
theorem Vs:(Rows.libraryCaesarUptoRow.mapsOut==Tryz.pinned.checked.prog.mapsAmong Tryz.f7.resultTypes.toList)=true:=by kernel_rfl
theorem Vt:(Rows.libraryCaesarUptoRow.loops==(Tryz.f7.params.toList++(Rows.OpenSpec.upto Rows.libraryCaesarSpec).bare.plain.varTypes Tryz.pinned.checked.prog).any (Tryz.pinned.checked.prog.loopsFrom ·))=true:=by kernel_rfl
theorem Vu:(Rows.libraryCaesarUptoRow.wideKeys==(Tryz.f7.params.toList++(Rows.OpenSpec.upto Rows.libraryCaesarSpec).bare.plain.varTypes Tryz.pinned.checked.prog++Tryz.f7.resultTypes.toList).any (Tryz.pinned.checked.prog.wideKeysFrom ·))=true:=by kernel_rfl
theorem Vw:(Rows.OpenSpec.upto Rows.libraryCaesarSpec).bare.vars.all (Tryz.pinned.checked.prog.varReadable ·)=true:=by kernel_rfl
theorem Vx:Tryz.f7.resultTypes.all (fun t=>Tryz.pinned.checked.prog.readableRec t&&decide (t<Tryz.pinned.checked.prog.types.size))=true:=by kernel_rfl
theorem Vy:(Rows.libraryCaesarUptoRow.ifacesOut==Tryz.f7.resultTypes.toList.any (Tryz.pinned.checked.prog.ifacesRec ·))=true:=by kernel_rfl
theorem Vz:(Rows.libraryCaesarUptoRow.loopsOut==Tryz.f7.resultTypes.toList.any (Tryz.pinned.checked.prog.loopsFrom ·))=true:=by kernel_rfl
theorem VA:(Rows.libraryCaesarUptoRow.plainKeys==Tryz.pinned.checked.prog.plainKeys)=true:=by kernel_rfl
theorem VB:Rows.libraryCaesarUptoRow.shortTexts.isNone=true:=by kernel_rfl
theorem VD:(Rows.libraryCaesarUptoRow.lifted==Tryz.pinned.checked.prog.liftsFinal)=true:=by kernel_rfl
theorem VE:(Tryz.pinned.checked.prog.make==some Rows.libraryCaesarUptoRow.make)=true:=by kernel_rfl
theorem VF:(Rows.libraryCaesarUptoRow.pinned==Rows.libraryCaesarUptoRow.pinnedBy)=true:=by kernel_rfl
theorem VG:(Rows.libraryCaesarUptoRow.veiled==(Tryz.f7.params.toList++(Rows.OpenSpec.upto Rows.libraryCaesarSpec).bare.plain.varTypes Tryz.pinned.checked.prog++Tryz.f7.resultTypes.toList).any (Tryz.pinned.checked.prog.veiledRec ·))=true:=by kernel_rfl
theorem VH:Rows.libraryCaesarUptoRow.veiledFits Tryz.pinned.checked.prog Tryz.f7.params.toList (Tryz.f7.params.toList++(Rows.OpenSpec.upto Rows.libraryCaesarSpec).bare.plain.varTypes Tryz.pinned.checked.prog++Tryz.f7.resultTypes.toList)=true:=by kernel_rfl
theorem MP:joinedFacts Tryz.pinned.checked.prog 7 Tryz.f7 (Rows.OpenSpec.upto Rows.libraryCaesarSpec).bare Rows.libraryCaesarUptoRow=true:=by
 unfold joinedFacts
 with_reducible refine aP (aP (aP (aP (aP (aP (aP (aP (aP (aP (aP (aP (aP (aP (aP (aP (aP (aP (aP (aP (aP (aP (aP (aP (aP (aP (aP (aP (aP (aP (aP Yq jp1) Yx) Yr) Yt) Yu) Yy) Yv) Yz) Yw) Vm) Vo) Vp) Vq) Vr) Vs) Vt) Vu) Vw) Vx) Vy) Vz) VA) VB) Ox) Oy) VD) VE) ?_) VF) VG) VH
 kernel_rfl
end Go.Proofs.YtgoijmpahffnhaaGreatDoor
