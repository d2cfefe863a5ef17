/- The library's programs are read, and right (1). -/
import Derived.Test.YtlnhcgihpclpaaaGreatDoorLm29
import Derived.Test.YtlnhcgihpclpaaaGreatDoorLm2
namespace Go.Proofs.YtlnhcgihpclpaaaGreatDoor
set_option linter.all false
open Go.RowKit

set_option maxRecDepth 1000000 in
theorem ok_binary : progOk tx_binary = true := by kernel_rfl
set_option maxRecDepth 1000000 in
theorem ok_collatz : progOk tx_collatz = true := by kernel_rfl
set_option maxRecDepth 1000000 in
theorem ok_euclid : progOk tx_euclid = true := by kernel_rfl
set_option maxRecDepth 1000000 in
theorem ok_hanoi : progOk tx_hanoi = true := by kernel_rfl
set_option maxRecDepth 1000000 in
theorem ok_number : progOk tx_number = true := by kernel_rfl
set_option maxRecDepth 1000000 in
theorem ok_reverse : progOk tx_reverse = true := by kernel_rfl
set_option maxRecDepth 1000000 in
theorem ok_sum : progOk tx_sum = true := by kernel_rfl
set_option maxRecDepth 1000000 in
theorem ok_words : progOk tx_words = true := by kernel_rfl
end Go.Proofs.YtlnhcgihpclpaaaGreatDoor
