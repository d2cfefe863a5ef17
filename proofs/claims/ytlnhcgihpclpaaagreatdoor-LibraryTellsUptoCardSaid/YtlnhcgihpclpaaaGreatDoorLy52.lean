/- The library's programs are read, and right (2). -/
import Derived.Test.YtlnhcgihpclpaaaGreatDoorLm29
import Derived.Test.YtlnhcgihpclpaaaGreatDoorLm2
namespace Go.Proofs.YtlnhcgihpclpaaaGreatDoor
set_option linter.all false
open Go.RowKit

set_option maxRecDepth 1000000 in
theorem ok_brackets : progOk tx_brackets = true := by kernel_rfl
set_option maxRecDepth 1000000 in
theorem ok_count : progOk tx_count = true := by kernel_rfl
set_option maxRecDepth 1000000 in
theorem ok_factorial : progOk tx_factorial = true := by kernel_rfl
set_option maxRecDepth 1000000 in
theorem ok_head : progOk tx_head = true := by kernel_rfl
set_option maxRecDepth 1000000 in
theorem ok_pascal : progOk tx_pascal = true := by kernel_rfl
set_option maxRecDepth 1000000 in
theorem ok_roman : progOk tx_roman = true := by kernel_rfl
set_option maxRecDepth 1000000 in
theorem ok_unique : progOk tx_unique = true := by kernel_rfl
end Go.Proofs.YtlnhcgihpclpaaaGreatDoor
