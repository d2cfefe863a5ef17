/-  -/
import Derived.Test.YtgoijmpahffnhaaGreatDoorLrJ
import Derived.Test.YtgoijmpahffnhaaGreatDoorRows
import Derived.JoinedCond
namespace Go.Proofs.YtgoijmpahffnhaaGreatDoor
set_option linter.all false
open Go
theorem VL:Rows.libraryLongestUptoRow.wf (OpenSpec.ofChange (Rows.OpenSpec.upto Rows.libraryLongestSpec).bare)=true:=by kernel_rfl
theorem VN:Tryz.f5.params.all (Tryz.pinned.checked.prog.readableRec ·)=true:=by kernel_rfl
theorem VO:namedTie Tryz.pinned.checked.prog Rows.libraryLongestUptoRow.named (Rows.OpenSpec.upto Rows.libraryLongestSpec).bare.vars=true:=by kernel_rfl
theorem VP:(Rows.libraryLongestUptoRow.stops==[])=true:=by kernel_rfl
theorem VQ:(Rows.libraryLongestUptoRow.knobs==[])=true:=by kernel_rfl
theorem VR:(Rows.libraryLongestUptoRow.inPlace==Tryz.pinned.checked.prog.inPlace 5)=true:=by kernel_rfl
theorem QZ:(Rows.libraryLongestUptoRow.unfollowed==Tryz.pinned.checked.prog.unfollowed 5)=true:=by kernel_rfl
theorem Q5:(Rows.libraryLongestUptoRow.recurses==Tryz.pinned.checked.prog.recurses 5)=true:=by kernel_rfl
theorem Rf:(Rows.libraryLongestUptoRow.named==Tryz.pinned.checked.prog.varsNamed 5)=true:=by kernel_rfl
theorem Rh:(Rows.libraryLongestUptoRow.maps==(Tryz.f5.params.toList++(Rows.OpenSpec.upto Rows.libraryLongestSpec).bare.plain.varTypes Tryz.pinned.checked.prog).any (Tryz.pinned.checked.prog.mapsRec ·))=true:=by kernel_rfl
theorem Ri:(Rows.libraryLongestUptoRow.ifaces==(Tryz.f5.params.toList++(Rows.OpenSpec.upto Rows.libraryLongestSpec).bare.plain.varTypes Tryz.pinned.checked.prog).any (Tryz.pinned.checked.prog.ifacesRec ·))=true:=by kernel_rfl
theorem Rj:(Rows.libraryLongestUptoRow.mapsOut==Tryz.pinned.checked.prog.mapsAmong Tryz.f5.resultTypes.toList)=true:=by kernel_rfl
theorem Rk:(Rows.libraryLongestUptoRow.loops==(Tryz.f5.params.toList++(Rows.OpenSpec.upto Rows.libraryLongestSpec).bare.plain.varTypes Tryz.pinned.checked.prog).any (Tryz.pinned.checked.prog.loopsFrom ·))=true:=by kernel_rfl
theorem Rl:(Rows.libraryLongestUptoRow.wideKeys==(Tryz.f5.params.toList++(Rows.OpenSpec.upto Rows.libraryLongestSpec).bare.plain.varTypes Tryz.pinned.checked.prog++Tryz.f5.resultTypes.toList).any (Tryz.pinned.checked.prog.wideKeysFrom ·))=true:=by kernel_rfl
theorem Rn:(Rows.OpenSpec.upto Rows.libraryLongestSpec).bare.vars.all (Tryz.pinned.checked.prog.varReadable ·)=true:=by kernel_rfl
theorem Ro:Tryz.f5.resultTypes.all (fun t=>Tryz.pinned.checked.prog.readableRec t&&decide (t<Tryz.pinned.checked.prog.types.size))=true:=by kernel_rfl
theorem Rq:(Rows.libraryLongestUptoRow.ifacesOut==Tryz.f5.resultTypes.toList.any (Tryz.pinned.checked.prog.ifacesRec ·))=true:=by kernel_rfl
theorem Rt:(Rows.libraryLongestUptoRow.loopsOut==Tryz.f5.resultTypes.toList.any (Tryz.pinned.checked.prog.loopsFrom ·))=true:=by kernel_rfl
theorem Rw:(Rows.libraryLongestUptoRow.plainKeys==Tryz.pinned.checked.prog.plainKeys)=true:=by kernel_rfl
theorem Rx:Rows.libraryLongestUptoRow.shortTexts.isNone=true:=by kernel_rfl
theorem Ry:(Rows.libraryLongestUptoRow.lifted==Tryz.pinned.checked.prog.liftsFinal)=true:=by kernel_rfl
theorem Rz:(Tryz.pinned.checked.prog.make==some Rows.libraryLongestUptoRow.make)=true:=by kernel_rfl
theorem RD:(Rows.libraryLongestUptoRow.pinned==Rows.libraryLongestUptoRow.pinnedBy)=true:=by kernel_rfl
theorem RF:(Rows.libraryLongestUptoRow.veiled==(Tryz.f5.params.toList++(Rows.OpenSpec.upto Rows.libraryLongestSpec).bare.plain.varTypes Tryz.pinned.checked.prog++Tryz.f5.resultTypes.toList).any (Tryz.pinned.checked.prog.veiledRec ·))=true:=by kernel_rfl
theorem RG:Rows.libraryLongestUptoRow.veiledFits Tryz.pinned.checked.prog Tryz.f5.params.toList (Tryz.f5.params.toList++(Rows.OpenSpec.upto Rows.libraryLongestSpec).bare.plain.varTypes Tryz.pinned.checked.prog++Tryz.f5.resultTypes.toList)=true:=by kernel_rfl
theorem JJ:joinedFacts Tryz.pinned.checked.prog 5 Tryz.f5 (Rows.OpenSpec.upto Rows.libraryLongestSpec).bare Rows.libraryLongestUptoRow=true:=by
 unfold joinedFacts
 with_reducible refine aP (aP (aP (aP (aP (aP (aP (aP (aP (aP (aP (aP (aP (aP (aP (aP (aP (aP (aP (aP (aP (aP (aP (aP (aP (aP (aP (aP (aP (aP (aP VL jp1) Yx) VN) VO) VP) Yy) VQ) Yz) VR) QZ) Q5) Rf) Rh) Ri) Rj) Rk) Rl) Rn) Ro) Rq) Rt) Rw) Rx) Ox) Oy) Ry) Rz) ?_) RD) RF) RG
 kernel_rfl
end Go.Proofs.YtgoijmpahffnhaaGreatDoor
