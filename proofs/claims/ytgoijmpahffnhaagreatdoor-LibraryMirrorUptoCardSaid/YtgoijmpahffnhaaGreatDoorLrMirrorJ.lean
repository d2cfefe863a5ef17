/-  -/
import Derived.Test.YtgoijmpahffnhaaGreatDoorLrJ
import Derived.Test.YtgoijmpahffnhaaGreatDoorRows
import Derived.JoinedCond
namespace Go.Proofs.YtgoijmpahffnhaaGreatDoor
set_option linter.all false
open Go
theorem YL:Rows.libraryMirrorUptoRow.wf (OpenSpec.ofChange (Rows.OpenSpec.upto Rows.libraryMirrorSpec).bare)=true:=by kernel_rfl
theorem YM:Tryz.f6.params.all (Tryz.pinned.checked.prog.readableRec ·)=true:=by kernel_rfl
theorem YN:namedTie Tryz.pinned.checked.prog Rows.libraryMirrorUptoRow.named (Rows.OpenSpec.upto Rows.libraryMirrorSpec).bare.vars=true:=by kernel_rfl
theorem YO:(Rows.libraryMirrorUptoRow.stops==[])=true:=by kernel_rfl
theorem YP:(Rows.libraryMirrorUptoRow.knobs==[])=true:=by kernel_rfl
theorem YQ:(Rows.libraryMirrorUptoRow.inPlace==Tryz.pinned.checked.prog.inPlace 6)=true:=by kernel_rfl
theorem VY:(Rows.libraryMirrorUptoRow.unfollowed==Tryz.pinned.checked.prog.unfollowed 6)=true:=by kernel_rfl
theorem VZ:(Rows.libraryMirrorUptoRow.recurses==Tryz.pinned.checked.prog.recurses 6)=true:=by kernel_rfl
theorem V3:(Rows.libraryMirrorUptoRow.named==Tryz.pinned.checked.prog.varsNamed 6)=true:=by kernel_rfl
theorem V4:(Rows.libraryMirrorUptoRow.maps==(Tryz.f6.params.toList++(Rows.OpenSpec.upto Rows.libraryMirrorSpec).bare.plain.varTypes Tryz.pinned.checked.prog).any (Tryz.pinned.checked.prog.mapsRec ·))=true:=by kernel_rfl
theorem V5:(Rows.libraryMirrorUptoRow.ifaces==(Tryz.f6.params.toList++(Rows.OpenSpec.upto Rows.libraryMirrorSpec).bare.plain.varTypes Tryz.pinned.checked.prog).any (Tryz.pinned.checked.prog.ifacesRec ·))=true:=by kernel_rfl
theorem V6:(Rows.libraryMirrorUptoRow.mapsOut==Tryz.pinned.checked.prog.mapsAmong Tryz.f6.resultTypes.toList)=true:=by kernel_rfl
theorem V7:(Rows.libraryMirrorUptoRow.loops==(Tryz.f6.params.toList++(Rows.OpenSpec.upto Rows.libraryMirrorSpec).bare.plain.varTypes Tryz.pinned.checked.prog).any (Tryz.pinned.checked.prog.loopsFrom ·))=true:=by kernel_rfl
theorem V8:(Rows.libraryMirrorUptoRow.wideKeys==(Tryz.f6.params.toList++(Rows.OpenSpec.upto Rows.libraryMirrorSpec).bare.plain.varTypes Tryz.pinned.checked.prog++Tryz.f6.resultTypes.toList).any (Tryz.pinned.checked.prog.wideKeysFrom ·))=true:=by kernel_rfl
theorem V9:(Rows.OpenSpec.upto Rows.libraryMirrorSpec).bare.vars.all (Tryz.pinned.checked.prog.varReadable ·)=true:=by kernel_rfl
theorem Wh:Tryz.f6.resultTypes.all (fun t=>Tryz.pinned.checked.prog.readableRec t&&decide (t<Tryz.pinned.checked.prog.types.size))=true:=by kernel_rfl
theorem Wi:(Rows.libraryMirrorUptoRow.ifacesOut==Tryz.f6.resultTypes.toList.any (Tryz.pinned.checked.prog.ifacesRec ·))=true:=by kernel_rfl
theorem Wj:(Rows.libraryMirrorUptoRow.loopsOut==Tryz.f6.resultTypes.toList.any (Tryz.pinned.checked.prog.loopsFrom ·))=true:=by kernel_rfl
theorem Wn:(Rows.libraryMirrorUptoRow.plainKeys==Tryz.pinned.checked.prog.plainKeys)=true:=by kernel_rfl
theorem Wp:Rows.libraryMirrorUptoRow.shortTexts.isNone=true:=by kernel_rfl
theorem Wq:(Rows.libraryMirrorUptoRow.lifted==Tryz.pinned.checked.prog.liftsFinal)=true:=by kernel_rfl
theorem Ws:(Tryz.pinned.checked.prog.make==some Rows.libraryMirrorUptoRow.make)=true:=by kernel_rfl
theorem Wu:(Rows.libraryMirrorUptoRow.pinned==Rows.libraryMirrorUptoRow.pinnedBy)=true:=by kernel_rfl
theorem Wv:(Rows.libraryMirrorUptoRow.veiled==(Tryz.f6.params.toList++(Rows.OpenSpec.upto Rows.libraryMirrorSpec).bare.plain.varTypes Tryz.pinned.checked.prog++Tryz.f6.resultTypes.toList).any (Tryz.pinned.checked.prog.veiledRec ·))=true:=by kernel_rfl
theorem Wx:Rows.libraryMirrorUptoRow.veiledFits Tryz.pinned.checked.prog Tryz.f6.params.toList (Tryz.f6.params.toList++(Rows.OpenSpec.upto Rows.libraryMirrorSpec).bare.plain.varTypes Tryz.pinned.checked.prog++Tryz.f6.resultTypes.toList)=true:=by kernel_rfl
theorem MS:joinedFacts Tryz.pinned.checked.prog 6 Tryz.f6 (Rows.OpenSpec.upto Rows.libraryMirrorSpec).bare Rows.libraryMirrorUptoRow=true:=by
 unfold joinedFacts
 with_reducible refine aP (aP (aP (aP (aP (aP (aP (aP (aP (aP (aP (aP (aP (aP (aP (aP (aP (aP (aP (aP (aP (aP (aP (aP (aP (aP (aP (aP (aP (aP (aP YL jp1) Yx) YM) YN) YO) Yy) YP) Yz) YQ) VY) VZ) V3) V4) V5) V6) V7) V8) V9) Wh) Wi) Wj) Wn) Wp) Ox) Oy) Wq) Ws) ?_) Wu) Wv) Wx
 kernel_rfl
end Go.Proofs.YtgoijmpahffnhaaGreatDoor
