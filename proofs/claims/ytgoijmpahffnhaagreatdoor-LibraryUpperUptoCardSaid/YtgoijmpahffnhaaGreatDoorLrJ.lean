/-  -/
import Derived.Test.YtgoijmpahffnhaaGreatDoorRows
import Derived.JoinedOf
import Derived.KernelRfl
namespace Go.Proofs.YtgoijmpahffnhaaGreatDoor
set_option linter.all false
open Go
theorem aP {a b:Bool} (h:a=true) (k:b=true):(a&&b)=true:=by rw [h,k];rfl
theorem jp1:laidOutB Tryz.pinned.checked.prog=true:=by kernel_rfl
theorem Yx:mapsRowed Tryz.pinned.checked.prog=true:=by kernel_rfl
theorem Yy:(Tryz.pinned.checked.prog.stops==[])=true:=by kernel_rfl
theorem Yz:(Tryz.pinned.checked.prog.stopKnobs==[])=true:=by kernel_rfl
theorem Ox:Tryz.pinned.checked.prog.stopsHeard=true:=by kernel_rfl
theorem Oy:Tryz.pinned.checked.prog.mayEnter=true:=by kernel_rfl
end Go.Proofs.YtgoijmpahffnhaaGreatDoor
