/- check.Builtin; the labels that are the language's (printed by gen/bi.py). The document's Args. -/
import Derived.Test.YtkhhinmhgjicgaaErl
namespace Go.Proofs.Ytkhhinmhgjicgaa
set_option linter.all false
open Go.RowKit

def strL (l : List UInt8) : ByteArray := ⟨l.toArray⟩
theorem strL_list (l : List UInt8) : (strL l).toList = l := by rw [ByteArray.toList_eq]; unfold strL; simp
theorem strL_inj {s : ByteArray} {l : List UInt8} : s = strL l ↔ s.toList = l := by
  constructor
  · rintro rfl; exact strL_list l
  · intro h
    obtain ⟨d⟩ := s
    rw [ByteArray.toList_eq] at h
    unfold strL
    rw [← h]
/-- A text's bytes are these. -/
def isS (l : List UInt8) (s : ByteArray) : Bool := s.toList == l
def builtin1 : List (List UInt8) := [[83, 73, 90, 69], [84, 82, 73, 77], [82, 69, 86, 69, 82, 83, 69], [82, 79, 79, 84], [73, 78, 84, 69, 71, 69, 82]]
def builtin2 : List (List UInt8) := [[68, 85, 80, 76], [82, 79, 84, 65, 84, 69], [67, 79, 85, 78, 84], [69, 81], [78, 69], [76, 84], [76, 69], [71, 84], [71, 69], [73, 68, 69, 78, 84], [68, 73, 70, 70, 69, 82], [76, 71, 84], [82, 69, 77, 68, 82], [80, 79, 87, 69, 82], [71, 67, 68], [66, 65, 83, 69], [85, 78, 66, 65, 83, 69]]
def builtin3 : List (List UInt8) := [[82, 69, 80, 76, 65, 67, 69], [83, 85, 66, 83, 84, 82], [76, 80, 65, 68], [82, 80, 65, 68]]
/-- How many arguments a function of the language takes. -/
def builtinF (s : ByteArray) : Int := if s.toList ∈ builtin1 then 1 else if s.toList ∈ builtin2 then 2 else if s.toList ∈ builtin3 then 3 else -1
def keptF (s : ByteArray) : Bool := (s.toList == [69, 78, 68]) || (s.toList == [82, 69, 84, 85, 82, 78]) || (s.toList == [70, 82, 69, 84, 85, 82, 78])

set_option maxRecDepth 100000 in
set_option maxHeartbeats 4000000 in
theorem builtin_any (s : ByteArray) (w : World) : Calls Try.prog 7 #[.string s] w fun e w' => e = .returned (.int .i64 (builtinF s)) ∧ w' = w := by
  by_cases hs : s.toList = [83, 73, 90, 69]
  · have fin : Hid (builtinF s = 1) := by unfold Hid builtinF; rw [hs]; decide
    have e0 : (s.toList == [83, 73, 90, 69]) = true := by rw [hs]; rfl
    clear hs
    go_enter Try.func7, Try.ntmps7
    go_wp2_with fail
    go_ret
    exact ⟨by rw [fin.out]; try rfl, rfl⟩
  have n0 := hs; clear hs
  by_cases hs : s.toList = [84, 82, 73, 77]
  · have fin : Hid (builtinF s = 1) := by unfold Hid builtinF; rw [hs]; decide
    have e0 : (s.toList == [83, 73, 90, 69]) = false := by rw [hs]; rfl
    have e1 : (s.toList == [84, 82, 73, 77]) = true := by rw [hs]; rfl
    clear hs
    go_enter Try.func7, Try.ntmps7
    go_wp2_with fail
    go_ret
    exact ⟨by rw [fin.out]; try rfl, rfl⟩
  have n1 := hs; clear hs
  by_cases hs : s.toList = [82, 69, 86, 69, 82, 83, 69]
  · have fin : Hid (builtinF s = 1) := by unfold Hid builtinF; rw [hs]; decide
    have e0 : (s.toList == [83, 73, 90, 69]) = false := by rw [hs]; rfl
    have e1 : (s.toList == [84, 82, 73, 77]) = false := by rw [hs]; rfl
    have e2 : (s.toList == [82, 69, 86, 69, 82, 83, 69]) = true := by rw [hs]; rfl
    clear hs
    go_enter Try.func7, Try.ntmps7
    go_wp2_with fail
    go_ret
    exact ⟨by rw [fin.out]; try rfl, rfl⟩
  have n2 := hs; clear hs
  by_cases hs : s.toList = [82, 79, 79, 84]
  · have fin : Hid (builtinF s = 1) := by unfold Hid builtinF; rw [hs]; decide
    have e0 : (s.toList == [83, 73, 90, 69]) = false := by rw [hs]; rfl
    have e1 : (s.toList == [84, 82, 73, 77]) = false := by rw [hs]; rfl
    have e2 : (s.toList == [82, 69, 86, 69, 82, 83, 69]) = false := by rw [hs]; rfl
    have e3 : (s.toList == [82, 79, 79, 84]) = true := by rw [hs]; rfl
    clear hs
    go_enter Try.func7, Try.ntmps7
    go_wp2_with fail
    go_ret
    exact ⟨by rw [fin.out]; try rfl, rfl⟩
  have n3 := hs; clear hs
  by_cases hs : s.toList = [73, 78, 84, 69, 71, 69, 82]
  · have fin : Hid (builtinF s = 1) := by unfold Hid builtinF; rw [hs]; decide
    have e0 : (s.toList == [83, 73, 90, 69]) = false := by rw [hs]; rfl
    have e1 : (s.toList == [84, 82, 73, 77]) = false := by rw [hs]; rfl
    have e2 : (s.toList == [82, 69, 86, 69, 82, 83, 69]) = false := by rw [hs]; rfl
    have e3 : (s.toList == [82, 79, 79, 84]) = false := by rw [hs]; rfl
    have e4 : (s.toList == [73, 78, 84, 69, 71, 69, 82]) = true := by rw [hs]; rfl
    clear hs
    go_enter Try.func7, Try.ntmps7
    go_wp2_with fail
    go_ret
    exact ⟨by rw [fin.out]; try rfl, rfl⟩
  have n4 := hs; clear hs
  by_cases hs : s.toList = [68, 85, 80, 76]
  · have fin : Hid (builtinF s = 2) := by unfold Hid builtinF; rw [hs]; decide
    have e0 : (s.toList == [83, 73, 90, 69]) = false := by rw [hs]; rfl
    have e1 : (s.toList == [84, 82, 73, 77]) = false := by rw [hs]; rfl
    have e2 : (s.toList == [82, 69, 86, 69, 82, 83, 69]) = false := by rw [hs]; rfl
    have e3 : (s.toList == [82, 79, 79, 84]) = false := by rw [hs]; rfl
    have e4 : (s.toList == [73, 78, 84, 69, 71, 69, 82]) = false := by rw [hs]; rfl
    have e5 : (s.toList == [68, 85, 80, 76]) = true := by rw [hs]; rfl
    clear hs
    go_enter Try.func7, Try.ntmps7
    go_wp2_with fail
    go_ret
    exact ⟨by rw [fin.out]; try rfl, rfl⟩
  have n5 := hs; clear hs
  by_cases hs : s.toList = [82, 79, 84, 65, 84, 69]
  · have fin : Hid (builtinF s = 2) := by unfold Hid builtinF; rw [hs]; decide
    have e0 : (s.toList == [83, 73, 90, 69]) = false := by rw [hs]; rfl
    have e1 : (s.toList == [84, 82, 73, 77]) = false := by rw [hs]; rfl
    have e2 : (s.toList == [82, 69, 86, 69, 82, 83, 69]) = false := by rw [hs]; rfl
    have e3 : (s.toList == [82, 79, 79, 84]) = false := by rw [hs]; rfl
    have e4 : (s.toList == [73, 78, 84, 69, 71, 69, 82]) = false := by rw [hs]; rfl
    have e5 : (s.toList == [68, 85, 80, 76]) = false := by rw [hs]; rfl
    have e6 : (s.toList == [82, 79, 84, 65, 84, 69]) = true := by rw [hs]; rfl
    clear hs
    go_enter Try.func7, Try.ntmps7
    go_wp2_with fail
    go_ret
    exact ⟨by rw [fin.out]; try rfl, rfl⟩
  have n6 := hs; clear hs
  by_cases hs : s.toList = [67, 79, 85, 78, 84]
  · have fin : Hid (builtinF s = 2) := by unfold Hid builtinF; rw [hs]; decide
    have e0 : (s.toList == [83, 73, 90, 69]) = false := by rw [hs]; rfl
    have e1 : (s.toList == [84, 82, 73, 77]) = false := by rw [hs]; rfl
    have e2 : (s.toList == [82, 69, 86, 69, 82, 83, 69]) = false := by rw [hs]; rfl
    have e3 : (s.toList == [82, 79, 79, 84]) = false := by rw [hs]; rfl
    have e4 : (s.toList == [73, 78, 84, 69, 71, 69, 82]) = false := by rw [hs]; rfl
    have e5 : (s.toList == [68, 85, 80, 76]) = false := by rw [hs]; rfl
    have e6 : (s.toList == [82, 79, 84, 65, 84, 69]) = false := by rw [hs]; rfl
    have e7 : (s.toList == [67, 79, 85, 78, 84]) = true := by rw [hs]; rfl
    clear hs
    go_enter Try.func7, Try.ntmps7
    go_wp2_with fail
    go_ret
    exact ⟨by rw [fin.out]; try rfl, rfl⟩
  have n7 := hs; clear hs
  by_cases hs : s.toList = [69, 81]
  · have fin : Hid (builtinF s = 2) := by unfold Hid builtinF; rw [hs]; decide
    have e0 : (s.toList == [83, 73, 90, 69]) = false := by rw [hs]; rfl
    have e1 : (s.toList == [84, 82, 73, 77]) = false := by rw [hs]; rfl
    have e2 : (s.toList == [82, 69, 86, 69, 82, 83, 69]) = false := by rw [hs]; rfl
    have e3 : (s.toList == [82, 79, 79, 84]) = false := by rw [hs]; rfl
    have e4 : (s.toList == [73, 78, 84, 69, 71, 69, 82]) = false := by rw [hs]; rfl
    have e5 : (s.toList == [68, 85, 80, 76]) = false := by rw [hs]; rfl
    have e6 : (s.toList == [82, 79, 84, 65, 84, 69]) = false := by rw [hs]; rfl
    have e7 : (s.toList == [67, 79, 85, 78, 84]) = false := by rw [hs]; rfl
    have e8 : (s.toList == [69, 81]) = true := by rw [hs]; rfl
    clear hs
    go_enter Try.func7, Try.ntmps7
    go_wp2_with fail
    go_ret
    exact ⟨by rw [fin.out]; try rfl, rfl⟩
  have n8 := hs; clear hs
  by_cases hs : s.toList = [78, 69]
  · have fin : Hid (builtinF s = 2) := by unfold Hid builtinF; rw [hs]; decide
    have e0 : (s.toList == [83, 73, 90, 69]) = false := by rw [hs]; rfl
    have e1 : (s.toList == [84, 82, 73, 77]) = false := by rw [hs]; rfl
    have e2 : (s.toList == [82, 69, 86, 69, 82, 83, 69]) = false := by rw [hs]; rfl
    have e3 : (s.toList == [82, 79, 79, 84]) = false := by rw [hs]; rfl
    have e4 : (s.toList == [73, 78, 84, 69, 71, 69, 82]) = false := by rw [hs]; rfl
    have e5 : (s.toList == [68, 85, 80, 76]) = false := by rw [hs]; rfl
    have e6 : (s.toList == [82, 79, 84, 65, 84, 69]) = false := by rw [hs]; rfl
    have e7 : (s.toList == [67, 79, 85, 78, 84]) = false := by rw [hs]; rfl
    have e8 : (s.toList == [69, 81]) = false := by rw [hs]; rfl
    have e9 : (s.toList == [78, 69]) = true := by rw [hs]; rfl
    clear hs
    go_enter Try.func7, Try.ntmps7
    go_wp2_with fail
    go_ret
    exact ⟨by rw [fin.out]; try rfl, rfl⟩
  have n9 := hs; clear hs
  by_cases hs : s.toList = [76, 84]
  · have fin : Hid (builtinF s = 2) := by unfold Hid builtinF; rw [hs]; decide
    have e0 : (s.toList == [83, 73, 90, 69]) = false := by rw [hs]; rfl
    have e1 : (s.toList == [84, 82, 73, 77]) = false := by rw [hs]; rfl
    have e2 : (s.toList == [82, 69, 86, 69, 82, 83, 69]) = false := by rw [hs]; rfl
    have e3 : (s.toList == [82, 79, 79, 84]) = false := by rw [hs]; rfl
    have e4 : (s.toList == [73, 78, 84, 69, 71, 69, 82]) = false := by rw [hs]; rfl
    have e5 : (s.toList == [68, 85, 80, 76]) = false := by rw [hs]; rfl
    have e6 : (s.toList == [82, 79, 84, 65, 84, 69]) = false := by rw [hs]; rfl
    have e7 : (s.toList == [67, 79, 85, 78, 84]) = false := by rw [hs]; rfl
    have e8 : (s.toList == [69, 81]) = false := by rw [hs]; rfl
    have e9 : (s.toList == [78, 69]) = false := by rw [hs]; rfl
    have e10 : (s.toList == [76, 84]) = true := by rw [hs]; rfl
    clear hs
    go_enter Try.func7, Try.ntmps7
    go_wp2_with fail
    go_ret
    exact ⟨by rw [fin.out]; try rfl, rfl⟩
  have n10 := hs; clear hs
  by_cases hs : s.toList = [76, 69]
  · have fin : Hid (builtinF s = 2) := by unfold Hid builtinF; rw [hs]; decide
    have e0 : (s.toList == [83, 73, 90, 69]) = false := by rw [hs]; rfl
    have e1 : (s.toList == [84, 82, 73, 77]) = false := by rw [hs]; rfl
    have e2 : (s.toList == [82, 69, 86, 69, 82, 83, 69]) = false := by rw [hs]; rfl
    have e3 : (s.toList == [82, 79, 79, 84]) = false := by rw [hs]; rfl
    have e4 : (s.toList == [73, 78, 84, 69, 71, 69, 82]) = false := by rw [hs]; rfl
    have e5 : (s.toList == [68, 85, 80, 76]) = false := by rw [hs]; rfl
    have e6 : (s.toList == [82, 79, 84, 65, 84, 69]) = false := by rw [hs]; rfl
    have e7 : (s.toList == [67, 79, 85, 78, 84]) = false := by rw [hs]; rfl
    have e8 : (s.toList == [69, 81]) = false := by rw [hs]; rfl
    have e9 : (s.toList == [78, 69]) = false := by rw [hs]; rfl
    have e10 : (s.toList == [76, 84]) = false := by rw [hs]; rfl
    have e11 : (s.toList == [76, 69]) = true := by rw [hs]; rfl
    clear hs
    go_enter Try.func7, Try.ntmps7
    go_wp2_with fail
    go_ret
    exact ⟨by rw [fin.out]; try rfl, rfl⟩
  have n11 := hs; clear hs
  by_cases hs : s.toList = [71, 84]
  · have fin : Hid (builtinF s = 2) := by unfold Hid builtinF; rw [hs]; decide
    have e0 : (s.toList == [83, 73, 90, 69]) = false := by rw [hs]; rfl
    have e1 : (s.toList == [84, 82, 73, 77]) = false := by rw [hs]; rfl
    have e2 : (s.toList == [82, 69, 86, 69, 82, 83, 69]) = false := by rw [hs]; rfl
    have e3 : (s.toList == [82, 79, 79, 84]) = false := by rw [hs]; rfl
    have e4 : (s.toList == [73, 78, 84, 69, 71, 69, 82]) = false := by rw [hs]; rfl
    have e5 : (s.toList == [68, 85, 80, 76]) = false := by rw [hs]; rfl
    have e6 : (s.toList == [82, 79, 84, 65, 84, 69]) = false := by rw [hs]; rfl
    have e7 : (s.toList == [67, 79, 85, 78, 84]) = false := by rw [hs]; rfl
    have e8 : (s.toList == [69, 81]) = false := by rw [hs]; rfl
    have e9 : (s.toList == [78, 69]) = false := by rw [hs]; rfl
    have e10 : (s.toList == [76, 84]) = false := by rw [hs]; rfl
    have e11 : (s.toList == [76, 69]) = false := by rw [hs]; rfl
    have e12 : (s.toList == [71, 84]) = true := by rw [hs]; rfl
    clear hs
    go_enter Try.func7, Try.ntmps7
    go_wp2_with fail
    go_ret
    exact ⟨by rw [fin.out]; try rfl, rfl⟩
  have n12 := hs; clear hs
  by_cases hs : s.toList = [71, 69]
  · have fin : Hid (builtinF s = 2) := by unfold Hid builtinF; rw [hs]; decide
    have e0 : (s.toList == [83, 73, 90, 69]) = false := by rw [hs]; rfl
    have e1 : (s.toList == [84, 82, 73, 77]) = false := by rw [hs]; rfl
    have e2 : (s.toList == [82, 69, 86, 69, 82, 83, 69]) = false := by rw [hs]; rfl
    have e3 : (s.toList == [82, 79, 79, 84]) = false := by rw [hs]; rfl
    have e4 : (s.toList == [73, 78, 84, 69, 71, 69, 82]) = false := by rw [hs]; rfl
    have e5 : (s.toList == [68, 85, 80, 76]) = false := by rw [hs]; rfl
    have e6 : (s.toList == [82, 79, 84, 65, 84, 69]) = false := by rw [hs]; rfl
    have e7 : (s.toList == [67, 79, 85, 78, 84]) = false := by rw [hs]; rfl
    have e8 : (s.toList == [69, 81]) = false := by rw [hs]; rfl
    have e9 : (s.toList == [78, 69]) = false := by rw [hs]; rfl
    have e10 : (s.toList == [76, 84]) = false := by rw [hs]; rfl
    have e11 : (s.toList == [76, 69]) = false := by rw [hs]; rfl
    have e12 : (s.toList == [71, 84]) = false := by rw [hs]; rfl
    have e13 : (s.toList == [71, 69]) = true := by rw [hs]; rfl
    clear hs
    go_enter Try.func7, Try.ntmps7
    go_wp2_with fail
    go_ret
    exact ⟨by rw [fin.out]; try rfl, rfl⟩
  have n13 := hs; clear hs
  by_cases hs : s.toList = [73, 68, 69, 78, 84]
  · have fin : Hid (builtinF s = 2) := by unfold Hid builtinF; rw [hs]; decide
    have e0 : (s.toList == [83, 73, 90, 69]) = false := by rw [hs]; rfl
    have e1 : (s.toList == [84, 82, 73, 77]) = false := by rw [hs]; rfl
    have e2 : (s.toList == [82, 69, 86, 69, 82, 83, 69]) = false := by rw [hs]; rfl
    have e3 : (s.toList == [82, 79, 79, 84]) = false := by rw [hs]; rfl
    have e4 : (s.toList == [73, 78, 84, 69, 71, 69, 82]) = false := by rw [hs]; rfl
    have e5 : (s.toList == [68, 85, 80, 76]) = false := by rw [hs]; rfl
    have e6 : (s.toList == [82, 79, 84, 65, 84, 69]) = false := by rw [hs]; rfl
    have e7 : (s.toList == [67, 79, 85, 78, 84]) = false := by rw [hs]; rfl
    have e8 : (s.toList == [69, 81]) = false := by rw [hs]; rfl
    have e9 : (s.toList == [78, 69]) = false := by rw [hs]; rfl
    have e10 : (s.toList == [76, 84]) = false := by rw [hs]; rfl
    have e11 : (s.toList == [76, 69]) = false := by rw [hs]; rfl
    have e12 : (s.toList == [71, 84]) = false := by rw [hs]; rfl
    have e13 : (s.toList == [71, 69]) = false := by rw [hs]; rfl
    have e14 : (s.toList == [73, 68, 69, 78, 84]) = true := by rw [hs]; rfl
    clear hs
    go_enter Try.func7, Try.ntmps7
    go_wp2_with fail
    go_ret
    exact ⟨by rw [fin.out]; try rfl, rfl⟩
  have n14 := hs; clear hs
  by_cases hs : s.toList = [68, 73, 70, 70, 69, 82]
  · have fin : Hid (builtinF s = 2) := by unfold Hid builtinF; rw [hs]; decide
    have e0 : (s.toList == [83, 73, 90, 69]) = false := by rw [hs]; rfl
    have e1 : (s.toList == [84, 82, 73, 77]) = false := by rw [hs]; rfl
    have e2 : (s.toList == [82, 69, 86, 69, 82, 83, 69]) = false := by rw [hs]; rfl
    have e3 : (s.toList == [82, 79, 79, 84]) = false := by rw [hs]; rfl
    have e4 : (s.toList == [73, 78, 84, 69, 71, 69, 82]) = false := by rw [hs]; rfl
    have e5 : (s.toList == [68, 85, 80, 76]) = false := by rw [hs]; rfl
    have e6 : (s.toList == [82, 79, 84, 65, 84, 69]) = false := by rw [hs]; rfl
    have e7 : (s.toList == [67, 79, 85, 78, 84]) = false := by rw [hs]; rfl
    have e8 : (s.toList == [69, 81]) = false := by rw [hs]; rfl
    have e9 : (s.toList == [78, 69]) = false := by rw [hs]; rfl
    have e10 : (s.toList == [76, 84]) = false := by rw [hs]; rfl
    have e11 : (s.toList == [76, 69]) = false := by rw [hs]; rfl
    have e12 : (s.toList == [71, 84]) = false := by rw [hs]; rfl
    have e13 : (s.toList == [71, 69]) = false := by rw [hs]; rfl
    have e14 : (s.toList == [73, 68, 69, 78, 84]) = false := by rw [hs]; rfl
    have e15 : (s.toList == [68, 73, 70, 70, 69, 82]) = true := by rw [hs]; rfl
    clear hs
    go_enter Try.func7, Try.ntmps7
    go_wp2_with fail
    go_ret
    exact ⟨by rw [fin.out]; try rfl, rfl⟩
  have n15 := hs; clear hs
  by_cases hs : s.toList = [76, 71, 84]
  · have fin : Hid (builtinF s = 2) := by unfold Hid builtinF; rw [hs]; decide
    have e0 : (s.toList == [83, 73, 90, 69]) = false := by rw [hs]; rfl
    have e1 : (s.toList == [84, 82, 73, 77]) = false := by rw [hs]; rfl
    have e2 : (s.toList == [82, 69, 86, 69, 82, 83, 69]) = false := by rw [hs]; rfl
    have e3 : (s.toList == [82, 79, 79, 84]) = false := by rw [hs]; rfl
    have e4 : (s.toList == [73, 78, 84, 69, 71, 69, 82]) = false := by rw [hs]; rfl
    have e5 : (s.toList == [68, 85, 80, 76]) = false := by rw [hs]; rfl
    have e6 : (s.toList == [82, 79, 84, 65, 84, 69]) = false := by rw [hs]; rfl
    have e7 : (s.toList == [67, 79, 85, 78, 84]) = false := by rw [hs]; rfl
    have e8 : (s.toList == [69, 81]) = false := by rw [hs]; rfl
    have e9 : (s.toList == [78, 69]) = false := by rw [hs]; rfl
    have e10 : (s.toList == [76, 84]) = false := by rw [hs]; rfl
    have e11 : (s.toList == [76, 69]) = false := by rw [hs]; rfl
    have e12 : (s.toList == [71, 84]) = false := by rw [hs]; rfl
    have e13 : (s.toList == [71, 69]) = false := by rw [hs]; rfl
    have e14 : (s.toList == [73, 68, 69, 78, 84]) = false := by rw [hs]; rfl
    have e15 : (s.toList == [68, 73, 70, 70, 69, 82]) = false := by rw [hs]; rfl
    have e16 : (s.toList == [76, 71, 84]) = true := by rw [hs]; rfl
    clear hs
    go_enter Try.func7, Try.ntmps7
    go_wp2_with fail
    go_ret
    exact ⟨by rw [fin.out]; try rfl, rfl⟩
  have n16 := hs; clear hs
  by_cases hs : s.toList = [82, 69, 77, 68, 82]
  · have fin : Hid (builtinF s = 2) := by unfold Hid builtinF; rw [hs]; decide
    have e0 : (s.toList == [83, 73, 90, 69]) = false := by rw [hs]; rfl
    have e1 : (s.toList == [84, 82, 73, 77]) = false := by rw [hs]; rfl
    have e2 : (s.toList == [82, 69, 86, 69, 82, 83, 69]) = false := by rw [hs]; rfl
    have e3 : (s.toList == [82, 79, 79, 84]) = false := by rw [hs]; rfl
    have e4 : (s.toList == [73, 78, 84, 69, 71, 69, 82]) = false := by rw [hs]; rfl
    have e5 : (s.toList == [68, 85, 80, 76]) = false := by rw [hs]; rfl
    have e6 : (s.toList == [82, 79, 84, 65, 84, 69]) = false := by rw [hs]; rfl
    have e7 : (s.toList == [67, 79, 85, 78, 84]) = false := by rw [hs]; rfl
    have e8 : (s.toList == [69, 81]) = false := by rw [hs]; rfl
    have e9 : (s.toList == [78, 69]) = false := by rw [hs]; rfl
    have e10 : (s.toList == [76, 84]) = false := by rw [hs]; rfl
    have e11 : (s.toList == [76, 69]) = false := by rw [hs]; rfl
    have e12 : (s.toList == [71, 84]) = false := by rw [hs]; rfl
    have e13 : (s.toList == [71, 69]) = false := by rw [hs]; rfl
    have e14 : (s.toList == [73, 68, 69, 78, 84]) = false := by rw [hs]; rfl
    have e15 : (s.toList == [68, 73, 70, 70, 69, 82]) = false := by rw [hs]; rfl
    have e16 : (s.toList == [76, 71, 84]) = false := by rw [hs]; rfl
    have e17 : (s.toList == [82, 69, 77, 68, 82]) = true := by rw [hs]; rfl
    clear hs
    go_enter Try.func7, Try.ntmps7
    go_wp2_with fail
    go_ret
    exact ⟨by rw [fin.out]; try rfl, rfl⟩
  have n17 := hs; clear hs
  by_cases hs : s.toList = [80, 79, 87, 69, 82]
  · have fin : Hid (builtinF s = 2) := by unfold Hid builtinF; rw [hs]; decide
    have e0 : (s.toList == [83, 73, 90, 69]) = false := by rw [hs]; rfl
    have e1 : (s.toList == [84, 82, 73, 77]) = false := by rw [hs]; rfl
    have e2 : (s.toList == [82, 69, 86, 69, 82, 83, 69]) = false := by rw [hs]; rfl
    have e3 : (s.toList == [82, 79, 79, 84]) = false := by rw [hs]; rfl
    have e4 : (s.toList == [73, 78, 84, 69, 71, 69, 82]) = false := by rw [hs]; rfl
    have e5 : (s.toList == [68, 85, 80, 76]) = false := by rw [hs]; rfl
    have e6 : (s.toList == [82, 79, 84, 65, 84, 69]) = false := by rw [hs]; rfl
    have e7 : (s.toList == [67, 79, 85, 78, 84]) = false := by rw [hs]; rfl
    have e8 : (s.toList == [69, 81]) = false := by rw [hs]; rfl
    have e9 : (s.toList == [78, 69]) = false := by rw [hs]; rfl
    have e10 : (s.toList == [76, 84]) = false := by rw [hs]; rfl
    have e11 : (s.toList == [76, 69]) = false := by rw [hs]; rfl
    have e12 : (s.toList == [71, 84]) = false := by rw [hs]; rfl
    have e13 : (s.toList == [71, 69]) = false := by rw [hs]; rfl
    have e14 : (s.toList == [73, 68, 69, 78, 84]) = false := by rw [hs]; rfl
    have e15 : (s.toList == [68, 73, 70, 70, 69, 82]) = false := by rw [hs]; rfl
    have e16 : (s.toList == [76, 71, 84]) = false := by rw [hs]; rfl
    have e17 : (s.toList == [82, 69, 77, 68, 82]) = false := by rw [hs]; rfl
    have e18 : (s.toList == [80, 79, 87, 69, 82]) = true := by rw [hs]; rfl
    clear hs
    go_enter Try.func7, Try.ntmps7
    go_wp2_with fail
    go_ret
    exact ⟨by rw [fin.out]; try rfl, rfl⟩
  have n18 := hs; clear hs
  by_cases hs : s.toList = [71, 67, 68]
  · have fin : Hid (builtinF s = 2) := by unfold Hid builtinF; rw [hs]; decide
    have e0 : (s.toList == [83, 73, 90, 69]) = false := by rw [hs]; rfl
    have e1 : (s.toList == [84, 82, 73, 77]) = false := by rw [hs]; rfl
    have e2 : (s.toList == [82, 69, 86, 69, 82, 83, 69]) = false := by rw [hs]; rfl
    have e3 : (s.toList == [82, 79, 79, 84]) = false := by rw [hs]; rfl
    have e4 : (s.toList == [73, 78, 84, 69, 71, 69, 82]) = false := by rw [hs]; rfl
    have e5 : (s.toList == [68, 85, 80, 76]) = false := by rw [hs]; rfl
    have e6 : (s.toList == [82, 79, 84, 65, 84, 69]) = false := by rw [hs]; rfl
    have e7 : (s.toList == [67, 79, 85, 78, 84]) = false := by rw [hs]; rfl
    have e8 : (s.toList == [69, 81]) = false := by rw [hs]; rfl
    have e9 : (s.toList == [78, 69]) = false := by rw [hs]; rfl
    have e10 : (s.toList == [76, 84]) = false := by rw [hs]; rfl
    have e11 : (s.toList == [76, 69]) = false := by rw [hs]; rfl
    have e12 : (s.toList == [71, 84]) = false := by rw [hs]; rfl
    have e13 : (s.toList == [71, 69]) = false := by rw [hs]; rfl
    have e14 : (s.toList == [73, 68, 69, 78, 84]) = false := by rw [hs]; rfl
    have e15 : (s.toList == [68, 73, 70, 70, 69, 82]) = false := by rw [hs]; rfl
    have e16 : (s.toList == [76, 71, 84]) = false := by rw [hs]; rfl
    have e17 : (s.toList == [82, 69, 77, 68, 82]) = false := by rw [hs]; rfl
    have e18 : (s.toList == [80, 79, 87, 69, 82]) = false := by rw [hs]; rfl
    have e19 : (s.toList == [71, 67, 68]) = true := by rw [hs]; rfl
    clear hs
    go_enter Try.func7, Try.ntmps7
    go_wp2_with fail
    go_ret
    exact ⟨by rw [fin.out]; try rfl, rfl⟩
  have n19 := hs; clear hs
  by_cases hs : s.toList = [66, 65, 83, 69]
  · have fin : Hid (builtinF s = 2) := by unfold Hid builtinF; rw [hs]; decide
    have e0 : (s.toList == [83, 73, 90, 69]) = false := by rw [hs]; rfl
    have e1 : (s.toList == [84, 82, 73, 77]) = false := by rw [hs]; rfl
    have e2 : (s.toList == [82, 69, 86, 69, 82, 83, 69]) = false := by rw [hs]; rfl
    have e3 : (s.toList == [82, 79, 79, 84]) = false := by rw [hs]; rfl
    have e4 : (s.toList == [73, 78, 84, 69, 71, 69, 82]) = false := by rw [hs]; rfl
    have e5 : (s.toList == [68, 85, 80, 76]) = false := by rw [hs]; rfl
    have e6 : (s.toList == [82, 79, 84, 65, 84, 69]) = false := by rw [hs]; rfl
    have e7 : (s.toList == [67, 79, 85, 78, 84]) = false := by rw [hs]; rfl
    have e8 : (s.toList == [69, 81]) = false := by rw [hs]; rfl
    have e9 : (s.toList == [78, 69]) = false := by rw [hs]; rfl
    have e10 : (s.toList == [76, 84]) = false := by rw [hs]; rfl
    have e11 : (s.toList == [76, 69]) = false := by rw [hs]; rfl
    have e12 : (s.toList == [71, 84]) = false := by rw [hs]; rfl
    have e13 : (s.toList == [71, 69]) = false := by rw [hs]; rfl
    have e14 : (s.toList == [73, 68, 69, 78, 84]) = false := by rw [hs]; rfl
    have e15 : (s.toList == [68, 73, 70, 70, 69, 82]) = false := by rw [hs]; rfl
    have e16 : (s.toList == [76, 71, 84]) = false := by rw [hs]; rfl
    have e17 : (s.toList == [82, 69, 77, 68, 82]) = false := by rw [hs]; rfl
    have e18 : (s.toList == [80, 79, 87, 69, 82]) = false := by rw [hs]; rfl
    have e19 : (s.toList == [71, 67, 68]) = false := by rw [hs]; rfl
    have e20 : (s.toList == [66, 65, 83, 69]) = true := by rw [hs]; rfl
    clear hs
    go_enter Try.func7, Try.ntmps7
    go_wp2_with fail
    go_ret
    exact ⟨by rw [fin.out]; try rfl, rfl⟩
  have n20 := hs; clear hs
  by_cases hs : s.toList = [85, 78, 66, 65, 83, 69]
  · have fin : Hid (builtinF s = 2) := by unfold Hid builtinF; rw [hs]; decide
    have e0 : (s.toList == [83, 73, 90, 69]) = false := by rw [hs]; rfl
    have e1 : (s.toList == [84, 82, 73, 77]) = false := by rw [hs]; rfl
    have e2 : (s.toList == [82, 69, 86, 69, 82, 83, 69]) = false := by rw [hs]; rfl
    have e3 : (s.toList == [82, 79, 79, 84]) = false := by rw [hs]; rfl
    have e4 : (s.toList == [73, 78, 84, 69, 71, 69, 82]) = false := by rw [hs]; rfl
    have e5 : (s.toList == [68, 85, 80, 76]) = false := by rw [hs]; rfl
    have e6 : (s.toList == [82, 79, 84, 65, 84, 69]) = false := by rw [hs]; rfl
    have e7 : (s.toList == [67, 79, 85, 78, 84]) = false := by rw [hs]; rfl
    have e8 : (s.toList == [69, 81]) = false := by rw [hs]; rfl
    have e9 : (s.toList == [78, 69]) = false := by rw [hs]; rfl
    have e10 : (s.toList == [76, 84]) = false := by rw [hs]; rfl
    have e11 : (s.toList == [76, 69]) = false := by rw [hs]; rfl
    have e12 : (s.toList == [71, 84]) = false := by rw [hs]; rfl
    have e13 : (s.toList == [71, 69]) = false := by rw [hs]; rfl
    have e14 : (s.toList == [73, 68, 69, 78, 84]) = false := by rw [hs]; rfl
    have e15 : (s.toList == [68, 73, 70, 70, 69, 82]) = false := by rw [hs]; rfl
    have e16 : (s.toList == [76, 71, 84]) = false := by rw [hs]; rfl
    have e17 : (s.toList == [82, 69, 77, 68, 82]) = false := by rw [hs]; rfl
    have e18 : (s.toList == [80, 79, 87, 69, 82]) = false := by rw [hs]; rfl
    have e19 : (s.toList == [71, 67, 68]) = false := by rw [hs]; rfl
    have e20 : (s.toList == [66, 65, 83, 69]) = false := by rw [hs]; rfl
    have e21 : (s.toList == [85, 78, 66, 65, 83, 69]) = true := by rw [hs]; rfl
    clear hs
    go_enter Try.func7, Try.ntmps7
    go_wp2_with fail
    go_ret
    exact ⟨by rw [fin.out]; try rfl, rfl⟩
  have n21 := hs; clear hs
  by_cases hs : s.toList = [82, 69, 80, 76, 65, 67, 69]
  · have fin : Hid (builtinF s = 3) := by unfold Hid builtinF; rw [hs]; decide
    have e0 : (s.toList == [83, 73, 90, 69]) = false := by rw [hs]; rfl
    have e1 : (s.toList == [84, 82, 73, 77]) = false := by rw [hs]; rfl
    have e2 : (s.toList == [82, 69, 86, 69, 82, 83, 69]) = false := by rw [hs]; rfl
    have e3 : (s.toList == [82, 79, 79, 84]) = false := by rw [hs]; rfl
    have e4 : (s.toList == [73, 78, 84, 69, 71, 69, 82]) = false := by rw [hs]; rfl
    have e5 : (s.toList == [68, 85, 80, 76]) = false := by rw [hs]; rfl
    have e6 : (s.toList == [82, 79, 84, 65, 84, 69]) = false := by rw [hs]; rfl
    have e7 : (s.toList == [67, 79, 85, 78, 84]) = false := by rw [hs]; rfl
    have e8 : (s.toList == [69, 81]) = false := by rw [hs]; rfl
    have e9 : (s.toList == [78, 69]) = false := by rw [hs]; rfl
    have e10 : (s.toList == [76, 84]) = false := by rw [hs]; rfl
    have e11 : (s.toList == [76, 69]) = false := by rw [hs]; rfl
    have e12 : (s.toList == [71, 84]) = false := by rw [hs]; rfl
    have e13 : (s.toList == [71, 69]) = false := by rw [hs]; rfl
    have e14 : (s.toList == [73, 68, 69, 78, 84]) = false := by rw [hs]; rfl
    have e15 : (s.toList == [68, 73, 70, 70, 69, 82]) = false := by rw [hs]; rfl
    have e16 : (s.toList == [76, 71, 84]) = false := by rw [hs]; rfl
    have e17 : (s.toList == [82, 69, 77, 68, 82]) = false := by rw [hs]; rfl
    have e18 : (s.toList == [80, 79, 87, 69, 82]) = false := by rw [hs]; rfl
    have e19 : (s.toList == [71, 67, 68]) = false := by rw [hs]; rfl
    have e20 : (s.toList == [66, 65, 83, 69]) = false := by rw [hs]; rfl
    have e21 : (s.toList == [85, 78, 66, 65, 83, 69]) = false := by rw [hs]; rfl
    have e22 : (s.toList == [82, 69, 80, 76, 65, 67, 69]) = true := by rw [hs]; rfl
    clear hs
    go_enter Try.func7, Try.ntmps7
    go_wp2_with fail
    go_ret
    exact ⟨by rw [fin.out]; try rfl, rfl⟩
  have n22 := hs; clear hs
  by_cases hs : s.toList = [83, 85, 66, 83, 84, 82]
  · have fin : Hid (builtinF s = 3) := by unfold Hid builtinF; rw [hs]; decide
    have e0 : (s.toList == [83, 73, 90, 69]) = false := by rw [hs]; rfl
    have e1 : (s.toList == [84, 82, 73, 77]) = false := by rw [hs]; rfl
    have e2 : (s.toList == [82, 69, 86, 69, 82, 83, 69]) = false := by rw [hs]; rfl
    have e3 : (s.toList == [82, 79, 79, 84]) = false := by rw [hs]; rfl
    have e4 : (s.toList == [73, 78, 84, 69, 71, 69, 82]) = false := by rw [hs]; rfl
    have e5 : (s.toList == [68, 85, 80, 76]) = false := by rw [hs]; rfl
    have e6 : (s.toList == [82, 79, 84, 65, 84, 69]) = false := by rw [hs]; rfl
    have e7 : (s.toList == [67, 79, 85, 78, 84]) = false := by rw [hs]; rfl
    have e8 : (s.toList == [69, 81]) = false := by rw [hs]; rfl
    have e9 : (s.toList == [78, 69]) = false := by rw [hs]; rfl
    have e10 : (s.toList == [76, 84]) = false := by rw [hs]; rfl
    have e11 : (s.toList == [76, 69]) = false := by rw [hs]; rfl
    have e12 : (s.toList == [71, 84]) = false := by rw [hs]; rfl
    have e13 : (s.toList == [71, 69]) = false := by rw [hs]; rfl
    have e14 : (s.toList == [73, 68, 69, 78, 84]) = false := by rw [hs]; rfl
    have e15 : (s.toList == [68, 73, 70, 70, 69, 82]) = false := by rw [hs]; rfl
    have e16 : (s.toList == [76, 71, 84]) = false := by rw [hs]; rfl
    have e17 : (s.toList == [82, 69, 77, 68, 82]) = false := by rw [hs]; rfl
    have e18 : (s.toList == [80, 79, 87, 69, 82]) = false := by rw [hs]; rfl
    have e19 : (s.toList == [71, 67, 68]) = false := by rw [hs]; rfl
    have e20 : (s.toList == [66, 65, 83, 69]) = false := by rw [hs]; rfl
    have e21 : (s.toList == [85, 78, 66, 65, 83, 69]) = false := by rw [hs]; rfl
    have e22 : (s.toList == [82, 69, 80, 76, 65, 67, 69]) = false := by rw [hs]; rfl
    have e23 : (s.toList == [83, 85, 66, 83, 84, 82]) = true := by rw [hs]; rfl
    clear hs
    go_enter Try.func7, Try.ntmps7
    go_wp2_with fail
    go_ret
    exact ⟨by rw [fin.out]; try rfl, rfl⟩
  have n23 := hs; clear hs
  by_cases hs : s.toList = [76, 80, 65, 68]
  · have fin : Hid (builtinF s = 3) := by unfold Hid builtinF; rw [hs]; decide
    have e0 : (s.toList == [83, 73, 90, 69]) = false := by rw [hs]; rfl
    have e1 : (s.toList == [84, 82, 73, 77]) = false := by rw [hs]; rfl
    have e2 : (s.toList == [82, 69, 86, 69, 82, 83, 69]) = false := by rw [hs]; rfl
    have e3 : (s.toList == [82, 79, 79, 84]) = false := by rw [hs]; rfl
    have e4 : (s.toList == [73, 78, 84, 69, 71, 69, 82]) = false := by rw [hs]; rfl
    have e5 : (s.toList == [68, 85, 80, 76]) = false := by rw [hs]; rfl
    have e6 : (s.toList == [82, 79, 84, 65, 84, 69]) = false := by rw [hs]; rfl
    have e7 : (s.toList == [67, 79, 85, 78, 84]) = false := by rw [hs]; rfl
    have e8 : (s.toList == [69, 81]) = false := by rw [hs]; rfl
    have e9 : (s.toList == [78, 69]) = false := by rw [hs]; rfl
    have e10 : (s.toList == [76, 84]) = false := by rw [hs]; rfl
    have e11 : (s.toList == [76, 69]) = false := by rw [hs]; rfl
    have e12 : (s.toList == [71, 84]) = false := by rw [hs]; rfl
    have e13 : (s.toList == [71, 69]) = false := by rw [hs]; rfl
    have e14 : (s.toList == [73, 68, 69, 78, 84]) = false := by rw [hs]; rfl
    have e15 : (s.toList == [68, 73, 70, 70, 69, 82]) = false := by rw [hs]; rfl
    have e16 : (s.toList == [76, 71, 84]) = false := by rw [hs]; rfl
    have e17 : (s.toList == [82, 69, 77, 68, 82]) = false := by rw [hs]; rfl
    have e18 : (s.toList == [80, 79, 87, 69, 82]) = false := by rw [hs]; rfl
    have e19 : (s.toList == [71, 67, 68]) = false := by rw [hs]; rfl
    have e20 : (s.toList == [66, 65, 83, 69]) = false := by rw [hs]; rfl
    have e21 : (s.toList == [85, 78, 66, 65, 83, 69]) = false := by rw [hs]; rfl
    have e22 : (s.toList == [82, 69, 80, 76, 65, 67, 69]) = false := by rw [hs]; rfl
    have e23 : (s.toList == [83, 85, 66, 83, 84, 82]) = false := by rw [hs]; rfl
    have e24 : (s.toList == [76, 80, 65, 68]) = true := by rw [hs]; rfl
    clear hs
    go_enter Try.func7, Try.ntmps7
    go_wp2_with fail
    go_ret
    exact ⟨by rw [fin.out]; try rfl, rfl⟩
  have n24 := hs; clear hs
  by_cases hs : s.toList = [82, 80, 65, 68]
  · have fin : Hid (builtinF s = 3) := by unfold Hid builtinF; rw [hs]; decide
    have e0 : (s.toList == [83, 73, 90, 69]) = false := by rw [hs]; rfl
    have e1 : (s.toList == [84, 82, 73, 77]) = false := by rw [hs]; rfl
    have e2 : (s.toList == [82, 69, 86, 69, 82, 83, 69]) = false := by rw [hs]; rfl
    have e3 : (s.toList == [82, 79, 79, 84]) = false := by rw [hs]; rfl
    have e4 : (s.toList == [73, 78, 84, 69, 71, 69, 82]) = false := by rw [hs]; rfl
    have e5 : (s.toList == [68, 85, 80, 76]) = false := by rw [hs]; rfl
    have e6 : (s.toList == [82, 79, 84, 65, 84, 69]) = false := by rw [hs]; rfl
    have e7 : (s.toList == [67, 79, 85, 78, 84]) = false := by rw [hs]; rfl
    have e8 : (s.toList == [69, 81]) = false := by rw [hs]; rfl
    have e9 : (s.toList == [78, 69]) = false := by rw [hs]; rfl
    have e10 : (s.toList == [76, 84]) = false := by rw [hs]; rfl
    have e11 : (s.toList == [76, 69]) = false := by rw [hs]; rfl
    have e12 : (s.toList == [71, 84]) = false := by rw [hs]; rfl
    have e13 : (s.toList == [71, 69]) = false := by rw [hs]; rfl
    have e14 : (s.toList == [73, 68, 69, 78, 84]) = false := by rw [hs]; rfl
    have e15 : (s.toList == [68, 73, 70, 70, 69, 82]) = false := by rw [hs]; rfl
    have e16 : (s.toList == [76, 71, 84]) = false := by rw [hs]; rfl
    have e17 : (s.toList == [82, 69, 77, 68, 82]) = false := by rw [hs]; rfl
    have e18 : (s.toList == [80, 79, 87, 69, 82]) = false := by rw [hs]; rfl
    have e19 : (s.toList == [71, 67, 68]) = false := by rw [hs]; rfl
    have e20 : (s.toList == [66, 65, 83, 69]) = false := by rw [hs]; rfl
    have e21 : (s.toList == [85, 78, 66, 65, 83, 69]) = false := by rw [hs]; rfl
    have e22 : (s.toList == [82, 69, 80, 76, 65, 67, 69]) = false := by rw [hs]; rfl
    have e23 : (s.toList == [83, 85, 66, 83, 84, 82]) = false := by rw [hs]; rfl
    have e24 : (s.toList == [76, 80, 65, 68]) = false := by rw [hs]; rfl
    have e25 : (s.toList == [82, 80, 65, 68]) = true := by rw [hs]; rfl
    clear hs
    go_enter Try.func7, Try.ntmps7
    go_wp2_with fail
    go_ret
    exact ⟨by rw [fin.out]; try rfl, rfl⟩
  have n25 := hs; clear hs
  have fin : Hid (builtinF s = -1) := by
    unfold Hid builtinF
    rw [if_neg, if_neg, if_neg]
    · simp only [builtin3, List.mem_cons, List.not_mem_nil, or_false, not_or]; exact ⟨n22, n23, n24, n25⟩
    · simp only [builtin2, List.mem_cons, List.not_mem_nil, or_false, not_or]; exact ⟨n5, n6, n7, n8, n9, n10, n11, n12, n13, n14, n15, n16, n17, n18, n19, n20, n21⟩
    · simp only [builtin1, List.mem_cons, List.not_mem_nil, or_false, not_or]; exact ⟨n0, n1, n2, n3, n4⟩
  have e0 : (s.toList == [83, 73, 90, 69]) = false := by simpa using n0
  have e1 : (s.toList == [84, 82, 73, 77]) = false := by simpa using n1
  have e2 : (s.toList == [82, 69, 86, 69, 82, 83, 69]) = false := by simpa using n2
  have e3 : (s.toList == [82, 79, 79, 84]) = false := by simpa using n3
  have e4 : (s.toList == [73, 78, 84, 69, 71, 69, 82]) = false := by simpa using n4
  have e5 : (s.toList == [68, 85, 80, 76]) = false := by simpa using n5
  have e6 : (s.toList == [82, 79, 84, 65, 84, 69]) = false := by simpa using n6
  have e7 : (s.toList == [67, 79, 85, 78, 84]) = false := by simpa using n7
  have e8 : (s.toList == [69, 81]) = false := by simpa using n8
  have e9 : (s.toList == [78, 69]) = false := by simpa using n9
  have e10 : (s.toList == [76, 84]) = false := by simpa using n10
  have e11 : (s.toList == [76, 69]) = false := by simpa using n11
  have e12 : (s.toList == [71, 84]) = false := by simpa using n12
  have e13 : (s.toList == [71, 69]) = false := by simpa using n13
  have e14 : (s.toList == [73, 68, 69, 78, 84]) = false := by simpa using n14
  have e15 : (s.toList == [68, 73, 70, 70, 69, 82]) = false := by simpa using n15
  have e16 : (s.toList == [76, 71, 84]) = false := by simpa using n16
  have e17 : (s.toList == [82, 69, 77, 68, 82]) = false := by simpa using n17
  have e18 : (s.toList == [80, 79, 87, 69, 82]) = false := by simpa using n18
  have e19 : (s.toList == [71, 67, 68]) = false := by simpa using n19
  have e20 : (s.toList == [66, 65, 83, 69]) = false := by simpa using n20
  have e21 : (s.toList == [85, 78, 66, 65, 83, 69]) = false := by simpa using n21
  have e22 : (s.toList == [82, 69, 80, 76, 65, 67, 69]) = false := by simpa using n22
  have e23 : (s.toList == [83, 85, 66, 83, 84, 82]) = false := by simpa using n23
  have e24 : (s.toList == [76, 80, 65, 68]) = false := by simpa using n24
  have e25 : (s.toList == [82, 80, 65, 68]) = false := by simpa using n25
  clear n0 n1 n2 n3 n4 n5 n6 n7 n8 n9 n10 n11 n12 n13 n14 n15 n16 n17 n18 n19 n20 n21 n22 n23 n24 n25
  go_enter Try.func7, Try.ntmps7
  go_wp2_with fail
  go_ret
  exact ⟨by rw [fin.out]; try rfl, rfl⟩

set_option maxRecDepth 100000 in
theorem kept_any (s : ByteArray) (w : World) : Calls Try.prog 26 #[.string s] w fun e w' => e = .returned (.bool (keptF s)) ∧ w' = w := by
  cases e1 : (s.toList == [69, 78, 68]) <;> cases e2 : (s.toList == [82, 69, 84, 85, 82, 78]) <;> cases e3 : (s.toList == [70, 82, 69, 84, 85, 82, 78])
  all_goals
    have fin := Lib.hid (show keptF s = _ by unfold keptF; rw [e1, e2, e3])
    go_enter Try.func26, Try.ntmps26
    go_wp2_with fail
    go_ret
    exact ⟨by rw [fin.out]; try rfl, rfl⟩
set_option maxRecDepth 100000 in
theorem refKept_any (s : ByteArray) (w : World) : Calls Try.prog 35 #[.string s] w fun e w' => e = .returned (.bool (keptF s)) ∧ w' = w := by
  cases e1 : (s.toList == [69, 78, 68]) <;> cases e2 : (s.toList == [82, 69, 84, 85, 82, 78]) <;> cases e3 : (s.toList == [70, 82, 69, 84, 85, 82, 78])
  all_goals
    have fin := Lib.hid (show keptF s = _ by unfold keptF; rw [e1, e2, e3])
    go_enter Try.func35, Try.ntmps35
    go_wp2_with fail
    go_ret
    exact ⟨by rw [fin.out]; try rfl, rfl⟩
end Go.Proofs.Ytkhhinmhgjicgaa

namespace Go.Proofs.Ytkhhinmhgjicgaa
set_option linter.all false
open Go.RowKit

def argLL : List (List (List UInt8)) := [[], builtin1, builtin2, builtin3]
theorem args_found {s : ByteArray} {j : Nat} (hj : j < 4) (h : ∀ x, x < j → s.toList ∉ argLL.getD x []) (hm : s.toList ∈ argLL.getD j []) : builtinF s = j := by
  unfold builtinF
  rcases (show j = 0 ∨ j = 1 ∨ j = 2 ∨ j = 3 by omega) with rfl | rfl | rfl | rfl
  · cases hm
  · rw [if_pos (show s.toList ∈ builtin1 from hm)]; rfl
  · rw [if_neg (show s.toList ∉ builtin1 from h 1 (by omega)), if_pos (show s.toList ∈ builtin2 from hm)]; rfl
  · rw [if_neg (show s.toList ∉ builtin1 from h 1 (by omega)), if_neg (show s.toList ∉ builtin2 from h 2 (by omega)), if_pos (show s.toList ∈ builtin3 from hm)]; rfl
theorem args_none {s : ByteArray} (h : ∀ x, x < 4 → s.toList ∉ argLL.getD x []) : builtinF s = -1 := by
  unfold builtinF
  rw [if_neg (show s.toList ∉ builtin1 from h 1 (by omega)), if_neg (show s.toList ∉ builtin2 from h 2 (by omega)), if_neg (show s.toList ∉ builtin3 from h 3 (by omega))]

set_option maxRecDepth 100000 in
set_option maxHeartbeats 4000000 in
theorem args_any (s : ByteArray) (w : World) : Calls Try.prog 8 #[.string s] w (IntQ (builtinF s) w) := by
  obtain ⟨w1, hw1⟩ : ∃ w1, w1 = w.alloc (.cells (builtin1.map fun x => Value.string (strL x)).toArray 9) := ⟨_, rfl⟩
  obtain ⟨w2, hw2⟩ : ∃ w2, w2 = w1.alloc (.cells (builtin2.map fun x => Value.string (strL x)).toArray 9) := ⟨_, rfl⟩
  obtain ⟨w3, hw3⟩ : ∃ w3, w3 = w2.alloc (.cells (builtin3.map fun x => Value.string (strL x)).toArray 9) := ⟨_, rfl⟩
  obtain ⟨w4, hw4⟩ : ∃ w4, w4 = w3.alloc (.cells #[.slice none 0 0, .slice (some ⟨w.heap.size, 0, none⟩) 5 5, .slice (some ⟨w.heap.size + 1, 0, none⟩) 17 17, .slice (some ⟨w.heap.size + 1 + 1, 0, none⟩) 4 4] 39) := ⟨_, rfl⟩
  have s1 : w1.heap.size = w.heap.size + 1 := by rw [hw1]; simp
  have s2 : w2.heap.size = w.heap.size + 1 + 1 := by rw [hw2]; simp [s1]
  have s3 : w3.heap.size = w.heap.size + 1 + 1 + 1 := by rw [hw3]; simp [s2]
  have r1 : w4.heap[w.heap.size]? = some (.cells ((builtin1.map strL).map Value.string).toArray 9 (0, 0)) := by
    rw [hw4, Below.heap_alloc _ _ _ (by omega), hw3, Below.heap_alloc _ _ _ (by omega), hw2, Below.heap_alloc _ _ _ (by omega), hw1, List.map_map]; exact heap_alloc_new w _
  have r2 : w4.heap[w.heap.size + 1]? = some (.cells ((builtin2.map strL).map Value.string).toArray 9 (0, 0)) := by
    rw [hw4, Below.heap_alloc _ _ _ (by omega), hw3, Below.heap_alloc _ _ _ (by omega), hw2, ← s1, List.map_map]; exact heap_alloc_new w1 _
  have r3 : w4.heap[w.heap.size + 1 + 1]? = some (.cells ((builtin3.map strL).map Value.string).toArray 9 (0, 0)) := by
    rw [hw4, Below.heap_alloc _ _ _ (by omega), hw3, ← s2, List.map_map]; exact heap_alloc_new w2 _
  have r4 : w4.heap[w.heap.size + 1 + 1 + 1]? = some (.cells #[.slice none 0 0, .slice (some ⟨w.heap.size, 0, none⟩) 5 5, .slice (some ⟨w.heap.size + 1, 0, none⟩) 17 17, .slice (some ⟨w.heap.size + 1 + 1, 0, none⟩) 4 4] 39 (0, 0)) := by
    rw [hw4, ← s3]; exact heap_alloc_new w3 _
  have K4 : Hid (Kept Nix w w4) := by rw [hw4, hw3, hw2, hw1]; exact ((((Kept.refl Nix w).alloc _).alloc _).alloc _).alloc _
  have HR : Hid (∀ j, j < 4 → ∃ a c, w4.cell? ⟨w.heap.size + 1 + 1 + 1, j, none⟩ = some (.slice a (argLL.getD j []).length c) ∧ StrsAt w4 (fun _ => True) a ((argLL.getD j []).map strL)) := by
    intro j hj
    rcases (show j = 0 ∨ j = 1 ∨ j = 2 ∨ j = 3 by omega) with rfl | rfl | rfl | rfl
    · exact ⟨none, 0, by rw [cell_of_row _ _ _ _ _ _ r4]; rfl, fun h => by simp [argLL] at h⟩
    · exact ⟨_, 5, by rw [cell_of_row _ _ _ _ _ _ r4]; rfl, strs_row r1 trivial⟩
    · exact ⟨_, 17, by rw [cell_of_row _ _ _ _ _ _ r4]; rfl, strs_row r2 trivial⟩
    · exact ⟨_, 4, by rw [cell_of_row _ _ _ _ _ _ r4]; rfl, strs_row r3 trivial⟩
  have hw : Hid (w4 = _) := hw4
  unfold Hid at hw
  rw [hw3, hw2, hw1] at hw
  have HW := Lib.hid hw
  clear hw hw1 hw2 hw3 hw4 r1 r2 r3 r4 s1 s2 s3
  go_enter Try.func8, Try.ntmps8
  go_upto_region 2 with fail
  refine cast (congrArg (fun x => Code.wp _ _ _ _ x) HW.out) ?_
  go_loop [12] (fun i => ∃ j : Nat, j ≤ 4 ∧ i = .int .i64 j ∧ Hid (∀ x, x < j → s.toList ∉ argLL.getD x [])) (fun i => 4 - (intOf i).toNat)
  case atStart => exact ⟨0, Nat.zero_le _, rfl, by intro x hx; omega⟩
  case round =>
    obtain ⟨j, hj, rfl, hno⟩ := hrel
    by_cases hlt : j < 4
    · obtain ⟨aj, cj, hcj, hsj⟩ := HR.out j hlt
      have HS := Lib.hid hsj
      have hlen : (argLL.getD j []).length ≤ 100 := by
        rcases (show j = 0 ∨ j = 1 ∨ j = 2 ∨ j = 3 by omega) with rfl | rfl | rfl | rfl <;> decide
      generalize hL : argLL.getD j [] = L at *
      clear hsj
      go_wp2_with fail
      go_loop [19] (fun i => ∃ k : Nat, k ≤ L.length ∧ i = .int .i64 k ∧ Hid (∀ y (h : y < L.length), y < k → L[y] ≠ s.toList)) (fun i => L.length - (intOf i).toNat)
      case atStart => exact ⟨0, Nat.zero_le _, rfl, by intro y _ hy; omega⟩
      case round =>
        obtain ⟨k, hk, rfl, hnk⟩ := hrel
        by_cases hlk : k < L.length
        · obtain ⟨b, o, rfl, _, hc⟩ := HS.out (by simpa using (show 0 < L.length by omega))
          have hck := hc k (by simpa using hlk)
          rw [List.getElem_map] at hck
          clear hc
          by_cases he : L[k] = s.toList
          · have fin := Lib.hid (args_found hlt hno.out (by rw [hL, ← he]; exact List.getElem_mem hlk))
            have e1 : ((strL L[k]).toList == s.toList) = true := by rw [strL_list]; simpa using he
            generalize strL L[k] = y at hck e1
            clear he
            go_wp2_with fail
            go_ret
            exact ⟨by rw [fin.out]; try rfl, K4.out⟩
          · have e1 : ((strL L[k]).toList == s.toList) = false := by rw [strL_list]; simpa using he
            have step : Hid (∀ y (h : y < L.length), y < k + 1 → L[y] ≠ s.toList) := by
              intro y h hy
              rcases Nat.lt_or_ge y k with h1 | h1
              · exact hnk.out y h h1
              · obtain rfl : y = k := by omega
                exact he
            generalize strL L[k] = y at hck e1
            clear he
            go_wp2_with fail
            go_round
            case rel => exact ⟨k + 1, by omega, by go_num, step⟩
            case measure => simp [intOf]; omega
        · obtain rfl : k = L.length := by omega
          have step : Hid (∀ x, x < j + 1 → s.toList ∉ argLL.getD x []) := by
            intro x hx
            rcases Nat.lt_or_ge x j with h1 | h1
            · exact hno.out x h1
            · obtain rfl : x = j := by omega
              rw [hL]
              intro hm
              obtain ⟨y, hy, e⟩ := List.getElem_of_mem hm
              exact hnk.out y hy hy e
          go_wp2_with fail
          go_round
          case rel => exact ⟨j + 1, by omega, by go_num, step⟩
          case measure => simp [intOf]; omega
    · obtain rfl : j = 4 := by omega
      have fin := Lib.hid (args_none hno.out)
      go_wp2_with fail
      go_ret
      exact ⟨by rw [fin.out]; try rfl, K4.out⟩
end Go.Proofs.Ytkhhinmhgjicgaa
