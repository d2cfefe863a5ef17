/-  -/
import Derived.Test.YtodebjhalipefaaGreatDoorRows
import Derived.JoinedOf
import Derived.KernelRfl
namespace Go.Proofs.YtodebjhalipefaaGreatDoor
set_option linter.all false
open Go
theorem eF {a b:Bool} (h:a=true) (k:b=true):(a&&b)=true:=by rw [h,k];rfl
theorem jp1:laidOutB Tryz.pinned.checked.prog=true:=by kernel_rfl
theorem jp2:mapsRowed Tryz.pinned.checked.prog=true:=by kernel_rfl
theorem jp6:(Tryz.pinned.checked.prog.stops==[])=true:=by kernel_rfl
theorem jp8:(Tryz.pinned.checked.prog.stopKnobs==[])=true:=by kernel_rfl
theorem aeO:Tryz.pinned.checked.prog.stopsHeard=true:=by kernel_rfl
theorem aeP:Tryz.pinned.checked.prog.mayEnter=true:=by kernel_rfl
end Go.Proofs.YtodebjhalipefaaGreatDoor
