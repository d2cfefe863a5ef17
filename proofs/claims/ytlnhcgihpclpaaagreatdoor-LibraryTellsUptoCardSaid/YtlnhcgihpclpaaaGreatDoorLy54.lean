/- The library's programs are read, and right (4). -/
import Derived.Test.YtlnhcgihpclpaaaGreatDoorLm29
import Derived.Test.YtlnhcgihpclpaaaGreatDoorLm2
namespace Go.Proofs.YtlnhcgihpclpaaaGreatDoor
set_option linter.all false
open Go.RowKit

set_option maxRecDepth 1000000 in
theorem ok_cat : progOk tx_cat = true := by kernel_rfl
set_option maxRecDepth 1000000 in
theorem ok_divisors : progOk tx_divisors = true := by kernel_rfl
set_option maxRecDepth 1000000 in
theorem ok_fields : progOk tx_fields = true := by kernel_rfl
set_option maxRecDepth 1000000 in
theorem ok_mirror : progOk tx_mirror = true := by kernel_rfl
set_option maxRecDepth 1000000 in
theorem ok_range : progOk tx_range = true := by kernel_rfl
set_option maxRecDepth 1000000 in
theorem ok_squeeze : progOk tx_squeeze = true := by kernel_rfl
set_option maxRecDepth 1000000 in
theorem ok_vowels : progOk tx_vowels = true := by kernel_rfl
end Go.Proofs.YtlnhcgihpclpaaaGreatDoor
