/-  -/
import Derived.Test.YtgoijmpahffnhaaGreatDoorRows
import Derived.JoinedOf
import Derived.KernelRfl
namespace Go.Proofs.YtgoijmpahffnhaaGreatDoor
set_option linter.all false
open Go
theorem lG {a b:Bool} (h:a=true) (k:b=true):(a&&b)=true:=by rw [h,k];rfl
theorem jp1:laidOutB Tryz.pinned.checked.prog=true:=by kernel_rfl
theorem jp2:mapsRowed Tryz.pinned.checked.prog=true:=by kernel_rfl
theorem jp6:(Tryz.pinned.checked.prog.stops==[])=true:=by kernel_rfl
theorem jp8:(Tryz.pinned.checked.prog.stopKnobs==[])=true:=by kernel_rfl
theorem agP:Tryz.pinned.checked.prog.stopsHeard=true:=by kernel_rfl
theorem agQ:Tryz.pinned.checked.prog.mayEnter=true:=by kernel_rfl
end Go.Proofs.YtgoijmpahffnhaaGreatDoor
