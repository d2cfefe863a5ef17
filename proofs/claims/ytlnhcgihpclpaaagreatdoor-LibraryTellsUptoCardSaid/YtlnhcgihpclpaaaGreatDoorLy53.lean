/- The library's programs are read, and right (3). -/
import Derived.Test.YtlnhcgihpclpaaaGreatDoorLm29
import Derived.Test.YtlnhcgihpclpaaaGreatDoorLm2
namespace Go.Proofs.YtlnhcgihpclpaaaGreatDoor
set_option linter.all false
open Go.RowKit

set_option maxRecDepth 1000000 in
theorem ok_caesar : progOk tx_caesar = true := by kernel_rfl
set_option maxRecDepth 1000000 in
theorem ok_digits : progOk tx_digits = true := by kernel_rfl
set_option maxRecDepth 1000000 in
theorem ok_fibonacci : progOk tx_fibonacci = true := by kernel_rfl
set_option maxRecDepth 1000000 in
theorem ok_longest : progOk tx_longest = true := by kernel_rfl
set_option maxRecDepth 1000000 in
theorem ok_primes : progOk tx_primes = true := by kernel_rfl
set_option maxRecDepth 1000000 in
theorem ok_sort : progOk tx_sort = true := by kernel_rfl
set_option maxRecDepth 1000000 in
theorem ok_upper : progOk tx_upper = true := by kernel_rfl
end Go.Proofs.YtlnhcgihpclpaaaGreatDoor
