/-  -/
import Derived.Test.YtodebjhalipefaaGreatDoorLrJ
import Derived.Test.YtodebjhalipefaaGreatDoorRows
import Derived.JoinedCond
namespace Go.Proofs.YtodebjhalipefaaGreatDoor
set_option linter.all false
open Go
theorem aaw:Rows.libraryCountUptoRow.wf (OpenSpec.ofChange (Rows.OpenSpec.upto Rows.libraryCountSpec).bare)=true:=by kernel_rfl
theorem aax:Tryz.f3.params.all (Tryz.pinned.checked.prog.readableRec ·)=true:=by kernel_rfl
theorem aay:namedTie Tryz.pinned.checked.prog Rows.libraryCountUptoRow.named (Rows.OpenSpec.upto Rows.libraryCountSpec).bare.vars=true:=by kernel_rfl
theorem aaz:(Rows.libraryCountUptoRow.stops==[])=true:=by kernel_rfl
theorem aaA:(Rows.libraryCountUptoRow.knobs==[])=true:=by kernel_rfl
theorem aaB:(Rows.libraryCountUptoRow.inPlace==Tryz.pinned.checked.prog.inPlace 3)=true:=by kernel_rfl
theorem WU:(Rows.libraryCountUptoRow.unfollowed==Tryz.pinned.checked.prog.unfollowed 3)=true:=by kernel_rfl
theorem WX:(Rows.libraryCountUptoRow.recurses==Tryz.pinned.checked.prog.recurses 3)=true:=by kernel_rfl
theorem WY:(Rows.libraryCountUptoRow.named==Tryz.pinned.checked.prog.varsNamed 3)=true:=by kernel_rfl
theorem WZ:(Rows.libraryCountUptoRow.maps==(Tryz.f3.params.toList++(Rows.OpenSpec.upto Rows.libraryCountSpec).bare.plain.varTypes Tryz.pinned.checked.prog).any (Tryz.pinned.checked.prog.mapsRec ·))=true:=by kernel_rfl
theorem Xa:(Rows.libraryCountUptoRow.ifaces==(Tryz.f3.params.toList++(Rows.OpenSpec.upto Rows.libraryCountSpec).bare.plain.varTypes Tryz.pinned.checked.prog).any (Tryz.pinned.checked.prog.ifacesRec ·))=true:=by kernel_rfl
theorem Xb:(Rows.libraryCountUptoRow.mapsOut==Tryz.pinned.checked.prog.mapsAmong Tryz.f3.resultTypes.toList)=true:=by kernel_rfl
theorem Xc:(Rows.libraryCountUptoRow.loops==(Tryz.f3.params.toList++(Rows.OpenSpec.upto Rows.libraryCountSpec).bare.plain.varTypes Tryz.pinned.checked.prog).any (Tryz.pinned.checked.prog.loopsFrom ·))=true:=by kernel_rfl
theorem Xd:(Rows.libraryCountUptoRow.wideKeys==(Tryz.f3.params.toList++(Rows.OpenSpec.upto Rows.libraryCountSpec).bare.plain.varTypes Tryz.pinned.checked.prog++Tryz.f3.resultTypes.toList).any (Tryz.pinned.checked.prog.wideKeysFrom ·))=true:=by kernel_rfl
theorem Xe:(Rows.OpenSpec.upto Rows.libraryCountSpec).bare.vars.all (Tryz.pinned.checked.prog.varReadable ·)=true:=by kernel_rfl
theorem Xf:Tryz.f3.resultTypes.all (fun t=>Tryz.pinned.checked.prog.readableRec t&&decide (t<Tryz.pinned.checked.prog.types.size))=true:=by kernel_rfl
theorem Xg:(Rows.libraryCountUptoRow.ifacesOut==Tryz.f3.resultTypes.toList.any (Tryz.pinned.checked.prog.ifacesRec ·))=true:=by kernel_rfl
theorem Xh:(Rows.libraryCountUptoRow.loopsOut==Tryz.f3.resultTypes.toList.any (Tryz.pinned.checked.prog.loopsFrom ·))=true:=by kernel_rfl
theorem Xi:(Rows.libraryCountUptoRow.plainKeys==Tryz.pinned.checked.prog.plainKeys)=true:=by kernel_rfl
theorem Xj:Rows.libraryCountUptoRow.shortTexts.isNone=true:=by kernel_rfl
theorem Xk:(Rows.libraryCountUptoRow.lifted==Tryz.pinned.checked.prog.liftsFinal)=true:=by kernel_rfl
theorem Xl:(Tryz.pinned.checked.prog.make==some Rows.libraryCountUptoRow.make)=true:=by kernel_rfl
theorem Xm:(Rows.libraryCountUptoRow.pinned==Rows.libraryCountUptoRow.pinnedBy)=true:=by kernel_rfl
theorem Xn:(Rows.libraryCountUptoRow.veiled==(Tryz.f3.params.toList++(Rows.OpenSpec.upto Rows.libraryCountSpec).bare.plain.varTypes Tryz.pinned.checked.prog++Tryz.f3.resultTypes.toList).any (Tryz.pinned.checked.prog.veiledRec ·))=true:=by kernel_rfl
theorem Xo:Rows.libraryCountUptoRow.veiledFits Tryz.pinned.checked.prog Tryz.f3.params.toList (Tryz.f3.params.toList++(Rows.OpenSpec.upto Rows.libraryCountSpec).bare.plain.varTypes Tryz.pinned.checked.prog++Tryz.f3.resultTypes.toList)=true:=by kernel_rfl
theorem NY:joinedFacts Tryz.pinned.checked.prog 3 Tryz.f3 (Rows.OpenSpec.upto Rows.libraryCountSpec).bare Rows.libraryCountUptoRow=true:=by
 unfold joinedFacts
 with_reducible refine eF (eF (eF (eF (eF (eF (eF (eF (eF (eF (eF (eF (eF (eF (eF (eF (eF (eF (eF (eF (eF (eF (eF (eF (eF (eF (eF (eF (eF (eF (eF aaw jp1) jp2) aax) aay) aaz) jp6) aaA) jp8) aaB) WU) WX) WY) WZ) Xa) Xb) Xc) Xd) Xe) Xf) Xg) Xh) Xi) Xj) aeO) aeP) Xk) Xl) ?_) Xm) Xn) Xo
 kernel_rfl
end Go.Proofs.YtodebjhalipefaaGreatDoor
