/- The document's Text of the library; Same of two equal lists. Where a pattern is not read the place that is told lies in the text. A statement is loaded, stored: as one step each (24 cells by simp are too much for the kernel). -/
import Derived.Test.YtlnhcgihpclpaaaGreatDoorLm19
import Derived.Deep.Quiet
import Derived.Test.YtlnhcgihpclpaaaGreatDoorLm10
import Derived.Test.YtlnhcgihpclpaaaGreatDoorLm11
namespace Go.Proofs.YtlnhcgihpclpaaaGreatDoor
set_option linter.all false
open Go.RowKit

theorem litF {n : ByteArray} {l : List UInt8} (h : n ≠ ⟨l.toArray⟩) : (n.toList == l) = false := by
  cases hb : (n.toList == l) with
  | false => rfl
  | true =>
    exfalso; apply h
    have := eq_of_beq hb
    rw [ByteArray.toList_eq] at this
    apply ByteArray.ext
    apply Array.toList_inj.1
    rw [this]
theorem litT {n : ByteArray} {l : List UInt8} (h : n = ⟨l.toArray⟩) : (n.toList == l) = true := by
  rw [h, ByteArray.toList_eq]; exact beq_self_eq_true l
set_option maxRecDepth 100000 in
set_option maxHeartbeats 16000000 in
theorem refText_any (n : ByteArray) (w : World) : Calls Tryz.prog 5 #[.string n] w (fun e w' => e = .returned (.tuple #[.string (textT n tabA).1, .int .i64 (textT n tabA).2]) ∧ w' = w) := by
  by_cases h0 : n = ⟨([98, 105, 110, 97, 114, 121] : List UInt8).toArray⟩
  · have q0 : (n.toList == [98, 105, 110, 97, 114, 121]) = true := litT h0
    have fin : Hid (textT n tabA = (tx_binary, 0)) := by unfold Hid; subst h0; kernel_rfl
    clear h0
    go_enter Tryz.func5, Tryz.ntmps5
    go_wp2_with fail
    go_ret2
    refine ⟨?_, rfl⟩
    rw [fin.out]
    kernel_rfl
  have q0 : (n.toList == [98, 105, 110, 97, 114, 121]) = false := litF h0
  have g0 := Lib.hid h0
  clear h0
  by_cases h1 : n = ⟨([98, 114, 97, 99, 107, 101, 116, 115] : List UInt8).toArray⟩
  · have q1 : (n.toList == [98, 114, 97, 99, 107, 101, 116, 115]) = true := litT h1
    have fin : Hid (textT n tabA = (tx_brackets, 0)) := by unfold Hid; subst h1; kernel_rfl
    clear h1
    go_enter Tryz.func5, Tryz.ntmps5
    go_wp2_with fail
    go_ret2
    refine ⟨?_, rfl⟩
    rw [fin.out]
    kernel_rfl
  have q1 : (n.toList == [98, 114, 97, 99, 107, 101, 116, 115]) = false := litF h1
  have g1 := Lib.hid h1
  clear h1
  by_cases h2 : n = ⟨([99, 97, 101, 115, 97, 114] : List UInt8).toArray⟩
  · have q2 : (n.toList == [99, 97, 101, 115, 97, 114]) = true := litT h2
    have fin : Hid (textT n tabA = (tx_caesar, 0)) := by unfold Hid; subst h2; kernel_rfl
    clear h2
    go_enter Tryz.func5, Tryz.ntmps5
    go_wp2_with fail
    go_ret2
    refine ⟨?_, rfl⟩
    rw [fin.out]
    kernel_rfl
  have q2 : (n.toList == [99, 97, 101, 115, 97, 114]) = false := litF h2
  have g2 := Lib.hid h2
  clear h2
  by_cases h3 : n = ⟨([99, 97, 116] : List UInt8).toArray⟩
  · have q3 : (n.toList == [99, 97, 116]) = true := litT h3
    have fin : Hid (textT n tabA = (tx_cat, 0)) := by unfold Hid; subst h3; kernel_rfl
    clear h3
    go_enter Tryz.func5, Tryz.ntmps5
    go_wp2_with fail
    go_ret2
    refine ⟨?_, rfl⟩
    rw [fin.out]
    kernel_rfl
  have q3 : (n.toList == [99, 97, 116]) = false := litF h3
  have g3 := Lib.hid h3
  clear h3
  by_cases h4 : n = ⟨([99, 111, 108, 108, 97, 116, 122] : List UInt8).toArray⟩
  · have q4 : (n.toList == [99, 111, 108, 108, 97, 116, 122]) = true := litT h4
    have fin : Hid (textT n tabA = (tx_collatz, 0)) := by unfold Hid; subst h4; kernel_rfl
    clear h4
    go_enter Tryz.func5, Tryz.ntmps5
    go_wp2_with fail
    go_ret2
    refine ⟨?_, rfl⟩
    rw [fin.out]
    kernel_rfl
  have q4 : (n.toList == [99, 111, 108, 108, 97, 116, 122]) = false := litF h4
  have g4 := Lib.hid h4
  clear h4
  by_cases h5 : n = ⟨([99, 111, 117, 110, 116] : List UInt8).toArray⟩
  · have q5 : (n.toList == [99, 111, 117, 110, 116]) = true := litT h5
    have fin : Hid (textT n tabA = (tx_count, 0)) := by unfold Hid; subst h5; kernel_rfl
    clear h5
    go_enter Tryz.func5, Tryz.ntmps5
    go_wp2_with fail
    go_ret2
    refine ⟨?_, rfl⟩
    rw [fin.out]
    kernel_rfl
  have q5 : (n.toList == [99, 111, 117, 110, 116]) = false := litF h5
  have g5 := Lib.hid h5
  clear h5
  by_cases h6 : n = ⟨([100, 105, 103, 105, 116, 115] : List UInt8).toArray⟩
  · have q6 : (n.toList == [100, 105, 103, 105, 116, 115]) = true := litT h6
    have fin : Hid (textT n tabA = (tx_digits, 0)) := by unfold Hid; subst h6; kernel_rfl
    clear h6
    go_enter Tryz.func5, Tryz.ntmps5
    go_wp2_with fail
    go_ret2
    refine ⟨?_, rfl⟩
    rw [fin.out]
    kernel_rfl
  have q6 : (n.toList == [100, 105, 103, 105, 116, 115]) = false := litF h6
  have g6 := Lib.hid h6
  clear h6
  by_cases h7 : n = ⟨([100, 105, 118, 105, 115, 111, 114, 115] : List UInt8).toArray⟩
  · have q7 : (n.toList == [100, 105, 118, 105, 115, 111, 114, 115]) = true := litT h7
    have fin : Hid (textT n tabA = (tx_divisors, 0)) := by unfold Hid; subst h7; kernel_rfl
    clear h7
    go_enter Tryz.func5, Tryz.ntmps5
    go_wp2_with fail
    go_ret2
    refine ⟨?_, rfl⟩
    rw [fin.out]
    kernel_rfl
  have q7 : (n.toList == [100, 105, 118, 105, 115, 111, 114, 115]) = false := litF h7
  have g7 := Lib.hid h7
  clear h7
  by_cases h8 : n = ⟨([101, 117, 99, 108, 105, 100] : List UInt8).toArray⟩
  · have q8 : (n.toList == [101, 117, 99, 108, 105, 100]) = true := litT h8
    have fin : Hid (textT n tabA = (tx_euclid, 0)) := by unfold Hid; subst h8; kernel_rfl
    clear h8
    go_enter Tryz.func5, Tryz.ntmps5
    go_wp2_with fail
    go_ret2
    refine ⟨?_, rfl⟩
    rw [fin.out]
    kernel_rfl
  have q8 : (n.toList == [101, 117, 99, 108, 105, 100]) = false := litF h8
  have g8 := Lib.hid h8
  clear h8
  by_cases h9 : n = ⟨([102, 97, 99, 116, 111, 114, 105, 97, 108] : List UInt8).toArray⟩
  · have q9 : (n.toList == [102, 97, 99, 116, 111, 114, 105, 97, 108]) = true := litT h9
    have fin : Hid (textT n tabA = (tx_factorial, 0)) := by unfold Hid; subst h9; kernel_rfl
    clear h9
    go_enter Tryz.func5, Tryz.ntmps5
    go_wp2_with fail
    go_ret2
    refine ⟨?_, rfl⟩
    rw [fin.out]
    kernel_rfl
  have q9 : (n.toList == [102, 97, 99, 116, 111, 114, 105, 97, 108]) = false := litF h9
  have g9 := Lib.hid h9
  clear h9
  by_cases h10 : n = ⟨([102, 105, 98, 111, 110, 97, 99, 99, 105] : List UInt8).toArray⟩
  · have q10 : (n.toList == [102, 105, 98, 111, 110, 97, 99, 99, 105]) = true := litT h10
    have fin : Hid (textT n tabA = (tx_fibonacci, 0)) := by unfold Hid; subst h10; kernel_rfl
    clear h10
    go_enter Tryz.func5, Tryz.ntmps5
    go_wp2_with fail
    go_ret2
    refine ⟨?_, rfl⟩
    rw [fin.out]
    kernel_rfl
  have q10 : (n.toList == [102, 105, 98, 111, 110, 97, 99, 99, 105]) = false := litF h10
  have g10 := Lib.hid h10
  clear h10
  by_cases h11 : n = ⟨([102, 105, 101, 108, 100, 115] : List UInt8).toArray⟩
  · have q11 : (n.toList == [102, 105, 101, 108, 100, 115]) = true := litT h11
    have fin : Hid (textT n tabA = (tx_fields, 0)) := by unfold Hid; subst h11; kernel_rfl
    clear h11
    go_enter Tryz.func5, Tryz.ntmps5
    go_wp2_with fail
    go_ret2
    refine ⟨?_, rfl⟩
    rw [fin.out]
    kernel_rfl
  have q11 : (n.toList == [102, 105, 101, 108, 100, 115]) = false := litF h11
  have g11 := Lib.hid h11
  clear h11
  by_cases h12 : n = ⟨([104, 97, 110, 111, 105] : List UInt8).toArray⟩
  · have q12 : (n.toList == [104, 97, 110, 111, 105]) = true := litT h12
    have fin : Hid (textT n tabA = (tx_hanoi, 0)) := by unfold Hid; subst h12; kernel_rfl
    clear h12
    go_enter Tryz.func5, Tryz.ntmps5
    go_wp2_with fail
    go_ret2
    refine ⟨?_, rfl⟩
    rw [fin.out]
    kernel_rfl
  have q12 : (n.toList == [104, 97, 110, 111, 105]) = false := litF h12
  have g12 := Lib.hid h12
  clear h12
  by_cases h13 : n = ⟨([104, 101, 97, 100] : List UInt8).toArray⟩
  · have q13 : (n.toList == [104, 101, 97, 100]) = true := litT h13
    have fin : Hid (textT n tabA = (tx_head, 0)) := by unfold Hid; subst h13; kernel_rfl
    clear h13
    go_enter Tryz.func5, Tryz.ntmps5
    go_wp2_with fail
    go_ret2
    refine ⟨?_, rfl⟩
    rw [fin.out]
    kernel_rfl
  have q13 : (n.toList == [104, 101, 97, 100]) = false := litF h13
  have g13 := Lib.hid h13
  clear h13
  by_cases h14 : n = ⟨([108, 111, 110, 103, 101, 115, 116] : List UInt8).toArray⟩
  · have q14 : (n.toList == [108, 111, 110, 103, 101, 115, 116]) = true := litT h14
    have fin : Hid (textT n tabA = (tx_longest, 0)) := by unfold Hid; subst h14; kernel_rfl
    clear h14
    go_enter Tryz.func5, Tryz.ntmps5
    go_wp2_with fail
    go_ret2
    refine ⟨?_, rfl⟩
    rw [fin.out]
    kernel_rfl
  have q14 : (n.toList == [108, 111, 110, 103, 101, 115, 116]) = false := litF h14
  have g14 := Lib.hid h14
  clear h14
  by_cases h15 : n = ⟨([109, 105, 114, 114, 111, 114] : List UInt8).toArray⟩
  · have q15 : (n.toList == [109, 105, 114, 114, 111, 114]) = true := litT h15
    have fin : Hid (textT n tabA = (tx_mirror, 0)) := by unfold Hid; subst h15; kernel_rfl
    clear h15
    go_enter Tryz.func5, Tryz.ntmps5
    go_wp2_with fail
    go_ret2
    refine ⟨?_, rfl⟩
    rw [fin.out]
    kernel_rfl
  have q15 : (n.toList == [109, 105, 114, 114, 111, 114]) = false := litF h15
  have g15 := Lib.hid h15
  clear h15
  by_cases h16 : n = ⟨([110, 117, 109, 98, 101, 114] : List UInt8).toArray⟩
  · have q16 : (n.toList == [110, 117, 109, 98, 101, 114]) = true := litT h16
    have fin : Hid (textT n tabA = (tx_number, 0)) := by unfold Hid; subst h16; kernel_rfl
    clear h16
    go_enter Tryz.func5, Tryz.ntmps5
    go_wp2_with fail
    go_ret2
    refine ⟨?_, rfl⟩
    rw [fin.out]
    kernel_rfl
  have q16 : (n.toList == [110, 117, 109, 98, 101, 114]) = false := litF h16
  have g16 := Lib.hid h16
  clear h16
  by_cases h17 : n = ⟨([112, 97, 115, 99, 97, 108] : List UInt8).toArray⟩
  · have q17 : (n.toList == [112, 97, 115, 99, 97, 108]) = true := litT h17
    have fin : Hid (textT n tabA = (tx_pascal, 0)) := by unfold Hid; subst h17; kernel_rfl
    clear h17
    go_enter Tryz.func5, Tryz.ntmps5
    go_wp2_with fail
    go_ret2
    refine ⟨?_, rfl⟩
    rw [fin.out]
    kernel_rfl
  have q17 : (n.toList == [112, 97, 115, 99, 97, 108]) = false := litF h17
  have g17 := Lib.hid h17
  clear h17
  by_cases h18 : n = ⟨([112, 114, 105, 109, 101, 115] : List UInt8).toArray⟩
  · have q18 : (n.toList == [112, 114, 105, 109, 101, 115]) = true := litT h18
    have fin : Hid (textT n tabA = (tx_primes, 0)) := by unfold Hid; subst h18; kernel_rfl
    clear h18
    go_enter Tryz.func5, Tryz.ntmps5
    go_wp2_with fail
    go_ret2
    refine ⟨?_, rfl⟩
    rw [fin.out]
    kernel_rfl
  have q18 : (n.toList == [112, 114, 105, 109, 101, 115]) = false := litF h18
  have g18 := Lib.hid h18
  clear h18
  by_cases h19 : n = ⟨([114, 97, 110, 103, 101] : List UInt8).toArray⟩
  · have q19 : (n.toList == [114, 97, 110, 103, 101]) = true := litT h19
    have fin : Hid (textT n tabA = (tx_range, 0)) := by unfold Hid; subst h19; kernel_rfl
    clear h19
    go_enter Tryz.func5, Tryz.ntmps5
    go_wp2_with fail
    go_ret2
    refine ⟨?_, rfl⟩
    rw [fin.out]
    kernel_rfl
  have q19 : (n.toList == [114, 97, 110, 103, 101]) = false := litF h19
  have g19 := Lib.hid h19
  clear h19
  by_cases h20 : n = ⟨([114, 101, 118, 101, 114, 115, 101] : List UInt8).toArray⟩
  · have q20 : (n.toList == [114, 101, 118, 101, 114, 115, 101]) = true := litT h20
    have fin : Hid (textT n tabA = (tx_reverse, 0)) := by unfold Hid; subst h20; kernel_rfl
    clear h20
    go_enter Tryz.func5, Tryz.ntmps5
    go_wp2_with fail
    go_ret2
    refine ⟨?_, rfl⟩
    rw [fin.out]
    kernel_rfl
  have q20 : (n.toList == [114, 101, 118, 101, 114, 115, 101]) = false := litF h20
  have g20 := Lib.hid h20
  clear h20
  by_cases h21 : n = ⟨([114, 111, 109, 97, 110] : List UInt8).toArray⟩
  · have q21 : (n.toList == [114, 111, 109, 97, 110]) = true := litT h21
    have fin : Hid (textT n tabA = (tx_roman, 0)) := by unfold Hid; subst h21; kernel_rfl
    clear h21
    go_enter Tryz.func5, Tryz.ntmps5
    go_wp2_with fail
    go_ret2
    refine ⟨?_, rfl⟩
    rw [fin.out]
    kernel_rfl
  have q21 : (n.toList == [114, 111, 109, 97, 110]) = false := litF h21
  have g21 := Lib.hid h21
  clear h21
  by_cases h22 : n = ⟨([115, 111, 114, 116] : List UInt8).toArray⟩
  · have q22 : (n.toList == [115, 111, 114, 116]) = true := litT h22
    have fin : Hid (textT n tabA = (tx_sort, 0)) := by unfold Hid; subst h22; kernel_rfl
    clear h22
    go_enter Tryz.func5, Tryz.ntmps5
    go_wp2_with fail
    go_ret2
    refine ⟨?_, rfl⟩
    rw [fin.out]
    kernel_rfl
  have q22 : (n.toList == [115, 111, 114, 116]) = false := litF h22
  have g22 := Lib.hid h22
  clear h22
  by_cases h23 : n = ⟨([115, 113, 117, 101, 101, 122, 101] : List UInt8).toArray⟩
  · have q23 : (n.toList == [115, 113, 117, 101, 101, 122, 101]) = true := litT h23
    have fin : Hid (textT n tabA = (tx_squeeze, 0)) := by unfold Hid; subst h23; kernel_rfl
    clear h23
    go_enter Tryz.func5, Tryz.ntmps5
    go_wp2_with fail
    go_ret2
    refine ⟨?_, rfl⟩
    rw [fin.out]
    kernel_rfl
  have q23 : (n.toList == [115, 113, 117, 101, 101, 122, 101]) = false := litF h23
  have g23 := Lib.hid h23
  clear h23
  by_cases h24 : n = ⟨([115, 117, 109] : List UInt8).toArray⟩
  · have q24 : (n.toList == [115, 117, 109]) = true := litT h24
    have fin : Hid (textT n tabA = (tx_sum, 0)) := by unfold Hid; subst h24; kernel_rfl
    clear h24
    go_enter Tryz.func5, Tryz.ntmps5
    go_wp2_with fail
    go_ret2
    refine ⟨?_, rfl⟩
    rw [fin.out]
    kernel_rfl
  have q24 : (n.toList == [115, 117, 109]) = false := litF h24
  have g24 := Lib.hid h24
  clear h24
  by_cases h25 : n = ⟨([117, 110, 105, 113, 117, 101] : List UInt8).toArray⟩
  · have q25 : (n.toList == [117, 110, 105, 113, 117, 101]) = true := litT h25
    have fin : Hid (textT n tabA = (tx_unique, 0)) := by unfold Hid; subst h25; kernel_rfl
    clear h25
    go_enter Tryz.func5, Tryz.ntmps5
    go_wp2_with fail
    go_ret2
    refine ⟨?_, rfl⟩
    rw [fin.out]
    kernel_rfl
  have q25 : (n.toList == [117, 110, 105, 113, 117, 101]) = false := litF h25
  have g25 := Lib.hid h25
  clear h25
  by_cases h26 : n = ⟨([117, 112, 112, 101, 114] : List UInt8).toArray⟩
  · have q26 : (n.toList == [117, 112, 112, 101, 114]) = true := litT h26
    have fin : Hid (textT n tabA = (tx_upper, 0)) := by unfold Hid; subst h26; kernel_rfl
    clear h26
    go_enter Tryz.func5, Tryz.ntmps5
    go_wp2_with fail
    go_ret2
    refine ⟨?_, rfl⟩
    rw [fin.out]
    kernel_rfl
  have q26 : (n.toList == [117, 112, 112, 101, 114]) = false := litF h26
  have g26 := Lib.hid h26
  clear h26
  by_cases h27 : n = ⟨([118, 111, 119, 101, 108, 115] : List UInt8).toArray⟩
  · have q27 : (n.toList == [118, 111, 119, 101, 108, 115]) = true := litT h27
    have fin : Hid (textT n tabA = (tx_vowels, 0)) := by unfold Hid; subst h27; kernel_rfl
    clear h27
    go_enter Tryz.func5, Tryz.ntmps5
    go_wp2_with fail
    go_ret2
    refine ⟨?_, rfl⟩
    rw [fin.out]
    kernel_rfl
  have q27 : (n.toList == [118, 111, 119, 101, 108, 115]) = false := litF h27
  have g27 := Lib.hid h27
  clear h27
  by_cases h28 : n = ⟨([119, 111, 114, 100, 115] : List UInt8).toArray⟩
  · have q28 : (n.toList == [119, 111, 114, 100, 115]) = true := litT h28
    have fin : Hid (textT n tabA = (tx_words, 0)) := by unfold Hid; subst h28; kernel_rfl
    clear h28
    go_enter Tryz.func5, Tryz.ntmps5
    go_wp2_with fail
    go_ret2
    refine ⟨?_, rfl⟩
    rw [fin.out]
    kernel_rfl
  have q28 : (n.toList == [119, 111, 114, 100, 115]) = false := litF h28
  have g28 := Lib.hid h28
  clear h28
  have fin : Hid (textT n tabA = (⟨#[]⟩, 7)) := by
    unfold Hid tabA tabE tabL
    simp only [List.cons_append, List.nil_append, textT]
    rw [if_neg (fun e => g0.out (e.symm.trans (by rfl))), if_neg (fun e => g1.out (e.symm.trans (by rfl))), if_neg (fun e => g2.out (e.symm.trans (by rfl))), if_neg (fun e => g3.out (e.symm.trans (by rfl))), if_neg (fun e => g4.out (e.symm.trans (by rfl))), if_neg (fun e => g5.out (e.symm.trans (by rfl))), if_neg (fun e => g6.out (e.symm.trans (by rfl))), if_neg (fun e => g7.out (e.symm.trans (by rfl))), if_neg (fun e => g8.out (e.symm.trans (by rfl))), if_neg (fun e => g9.out (e.symm.trans (by rfl))), if_neg (fun e => g10.out (e.symm.trans (by rfl))), if_neg (fun e => g11.out (e.symm.trans (by rfl))), if_neg (fun e => g12.out (e.symm.trans (by rfl))), if_neg (fun e => g13.out (e.symm.trans (by rfl))), if_neg (fun e => g14.out (e.symm.trans (by rfl))), if_neg (fun e => g15.out (e.symm.trans (by rfl))), if_neg (fun e => g16.out (e.symm.trans (by rfl))), if_neg (fun e => g17.out (e.symm.trans (by rfl))), if_neg (fun e => g18.out (e.symm.trans (by rfl))), if_neg (fun e => g19.out (e.symm.trans (by rfl))), if_neg (fun e => g20.out (e.symm.trans (by rfl))), if_neg (fun e => g21.out (e.symm.trans (by rfl))), if_neg (fun e => g22.out (e.symm.trans (by rfl))), if_neg (fun e => g23.out (e.symm.trans (by rfl))), if_neg (fun e => g24.out (e.symm.trans (by rfl))), if_neg (fun e => g25.out (e.symm.trans (by rfl))), if_neg (fun e => g26.out (e.symm.trans (by rfl))), if_neg (fun e => g27.out (e.symm.trans (by rfl))), if_neg (fun e => g28.out (e.symm.trans (by rfl)))]
  go_enter Tryz.func5, Tryz.ntmps5
  go_wp2_with fail
  go_ret2
  refine ⟨?_, rfl⟩
  rw [fin.out]
  rfl
/-- A list of texts in memory. -/
def LsAt (w : World) (a : Option Addr) (l : List ByteArray) : Prop := ∃ g o, a = some ⟨g, o, none⟩ ∧ g < w.heap.size ∧ ∀ j (h : j < l.length), w.cell? ⟨g, o + j, none⟩ = some (.string l[j])
theorem LsAt.kept {w w2 : World} {a : Option Addr} {l : List ByteArray} (h : LsAt w a l) (hk : Kept Nix w w2) : LsAt w2 a l := by
  obtain ⟨g, o, e, hg, hc⟩ := h
  exact ⟨g, o, e, Nat.lt_of_lt_of_le hg hk.size, fun j hj => (hk.cell hg (fun h => h)).trans (hc j hj)⟩
set_option maxRecDepth 100000 in
set_option maxHeartbeats 8000000 in
theorem same_any (l : List ByteArray) (a b : Option Addr) (ca cb : Nat) (w : World) (ha : LsAt w a l) (hb : LsAt w b l) (hlen : l.length ≤ 1000) : Calls Tryz.prog 7 #[.slice a l.length ca, .slice b l.length cb] w (BoolQ true w) := by
  have HA := Lib.hid ha; have HB := Lib.hid hb
  clear ha hb
  go_enter Tryz.func7, Tryz.ntmps7
  go_wp2_with fail
  go_loopw [13] (fun i wr => ∃ j : Nat, j ≤ l.length ∧ i = .int .i64 j ∧ Hid (Kept Nix w wr)) (fun i _ => l.length - (intOf i).toNat)
  case atStart => exact ⟨0, Nat.zero_le _, rfl, Kept.refl _ _⟩
  case round =>
    obtain ⟨j, hj, rfl, K⟩ := hrel
    by_cases hlt : j < l.length
    · have e1 : decide ((j : Int) < (l.length : Int)) = true := decide_eq_true (by omega)
      have bj : (j : Int) < (l.length : Int) := by omega
      obtain ⟨ga, oa, rfl, hga, hca⟩ := HA.out.kept K.out
      obtain ⟨gb, ob, rfl, hgb, hcb⟩ := HB.out.kept K.out
      have qa := hca j hlt; have qb := hcb j hlt
      obtain ⟨x, hx⟩ : ∃ x, x = l[j] := ⟨_, rfl⟩
      rw [← hx] at qa qb
      clear hca hcb hga hgb hx
      go_wp2_with fail
      go_quiet (fail)
      have K2 : Hid (Kept Nix w (wr.drewN nq)) := K.out.drewN nq
      go_wp2_with fail
      go_roundw
      case rel => exact ⟨j + 1, by omega, by go_num, K2⟩
      case measure => simp [intOf]; omega
    · obtain rfl : j = l.length := by omega
      go_wp2_with fail
      go_ret
      exact ⟨rfl, K.out⟩
end Go.Proofs.YtlnhcgihpclpaaaGreatDoor

namespace Go.Proofs.YtlnhcgihpclpaaaGreatDoor
set_option linter.all false
open Go.RowKit

def BadIn (s : ByteArray) {α : Type} (f : Nat → Except Er α) : Prop := ∀ i er, i ≤ s.size → f i = .error er → er.2 ≤ s.size
theorem need_bad {c : Nat} {s : ByteArray} {i : Nat} {er : Er} (hi : i ≤ s.size) (h : needP c s i = .error er) : er.2 ≤ s.size := by
  unfold needP at h
  split at h
  · cases h
  · simp only [Except.error.injEq] at h; subst h; exact skip_le hi
theorem word_bad {s : ByteArray} {i : Nat} {er : Er} (hi : i ≤ s.size) (h : wordP s i = .error er) : er.2 ≤ s.size := by
  unfold wordP at h
  split at h
  · cases h
  · simp only [Except.error.injEq] at h; subst h; exact skip_le hi
theorem name_bad {s : ByteArray} {i : Nat} {er : Er} (hi : i ≤ s.size) (h : nameP s i = .error er) : er.2 ≤ s.size := by
  unfold nameP at h
  split at h
  · next e he => simp only [Except.error.injEq] at h; subst h; exact word_bad hi he
  · next x a k hw =>
    split at h
    · simp only [Except.error.injEq] at h; subst h; exact (word_ok hi hw).2.2.2.1
    · cases h
theorem text_bad {s : ByteArray} {i : Nat} {er : Er} (hi : i ≤ s.size) (h : textP s i = .error er) : er.2 ≤ s.size := by
  unfold textP at h
  split at h
  · next e he => simp only [Except.error.injEq] at h; subst h; exact need_bad hi he
  · next k hk =>
    cases ht : txtL (s.data.toList.drop k) with
    | none => rw [ht] at h; simp only [textR, Except.error.injEq] at h; subst h; exact Nat.le_refl _
    | some x => obtain ⟨b, n⟩ := x; rw [ht] at h; cases h
theorem isD_lt {s : ByteArray} {k : Nat} (h : isD s k = true) : k < s.size := by
  unfold isD at h
  simp only [Bool.and_eq_true, decide_eq_true_eq] at h
  by_cases hk : k < s.size
  · exact hk
  · have : peek s k = -1 := by unfold peek; rw [dif_neg hk]
    omega
theorem numGo_bad {s : ByteArray} {j : Nat} (hj : j ≤ s.size) : ∀ (f k n : Nat) {er : Er}, k ≤ s.size → numGo s j f k n = .error er → er.2 ≤ s.size
  | 0, k, n, er, _, h => by cases h
  | f + 1, k, n, er, hk, h => by
    rw [numGo] at h
    split at h
    · next hd =>
      have := isD_lt hd
      split at h
      · simp only [Except.error.injEq] at h; subst h; exact hk
      · split at h
        · simp only [Except.error.injEq] at h; subst h; exact hj
        · exact numGo_bad hj f _ _ (by omega) h
    · cases h
theorem num_bad {s : ByteArray} {i : Nat} {er : Er} (hi : i ≤ s.size) (h : numP s i = .error er) : er.2 ≤ s.size := by
  unfold numP at h
  split at h
  · exact numGo_bad (skip_le hi) _ _ _ (skip_le hi) h
  · simp only [Except.error.injEq] at h; subst h; exact skip_le hi
theorem kind_bad {s : ByteArray} {inner : Nat → Res PatT} (hf : InnerFwd s inner) (hb : BadIn s inner) {a k : Nat} {kd : Int} {er : Er} (ha : a ≤ s.size) (hk : k ≤ s.size) (h : kindP inner s a k kd = .error er) : er.2 ≤ s.size := by
  unfold kindP at h
  split at h
  · simp only [Except.error.injEq] at h; subst h; exact ha
  · split at h
    · unfold argTextP at h
      split at h
      · next e he => simp only [Except.error.injEq] at h; subst h; exact need_bad hk he
      · next k1 hk1 =>
        have h1 := need_ok hk1
        split at h
        · next e he => simp only [Except.error.injEq] at h; subst h; exact text_bad h1.2.1 he
        · next t b k2 ht =>
          have h2 := text_ok ht
          split at h
          · simp only [Except.error.injEq] at h; subst h; exact Nat.le_of_lt h2.2.2.2
          · split at h
            · next e he => simp only [Except.error.injEq] at h; subst h; exact need_bad h2.2.1 he
            · cases h
    · split at h
      · unfold argNumP at h
        split at h
        · next e he => simp only [Except.error.injEq] at h; subst h; exact need_bad hk he
        · next k1 hk1 =>
          have h1 := need_ok hk1
          split at h
          · next e he => simp only [Except.error.injEq] at h; subst h; exact num_bad h1.2.1 he
          · next n k2 ht =>
            have h2 := num_ok h1.2.1 ht
            split at h
            · next e he => simp only [Except.error.injEq] at h; subst h; exact need_bad h2.2.1 he
            · cases h
      · split at h
        · unfold argPatP at h
          split at h
          · next e he => simp only [Except.error.injEq] at h; subst h; exact need_bad hk he
          · next k1 hk1 =>
            have h1 := need_ok hk1
            split at h
            · next e he => simp only [Except.error.injEq] at h; subst h; exact hb _ _ h1.2.1 he
            · next p k2 ht =>
              have h2 := hf _ _ _ h1.2.1 ht
              split at h
              · next e he => simp only [Except.error.injEq] at h; subst h; exact need_bad h2.2 he
              · cases h
        · cases h
theorem nm_bad {s : ByteArray} {j : Nat} {kd : Int} {er : Er} (hj : j ≤ s.size) (h : nmP s j kd = .error er) : er.2 ≤ s.size := by
  unfold nmP at h
  split at h
  · next e he => simp only [Except.error.injEq] at h; subst h; exact name_bad hj he
  · cases h
theorem peek_in {s : ByteArray} {i : Nat} (h : 0 ≤ peek s i) : i < s.size := by
  by_cases hk : i < s.size
  · exact hk
  · have : peek s i = -1 := by unfold peek; rw [dif_neg hk]
    omega
theorem primary_bad {s : ByteArray} {inner : Nat → Res PatT} (hf : InnerFwd s inner) (hb : BadIn s inner) : BadIn s (primaryP inner s) := by
  intro i er hi h
  have h1 := skip_le hi
  unfold primaryP at h
  split at h
  · unfold litP at h
    split at h
    · next e he => simp only [Except.error.injEq] at h; subst h; exact text_bad h1 he
    · cases h
  · split at h
    · next hp => have := peek_in (s := s) (i := skip s i) (by omega); exact nm_bad (by omega) h
    · split at h
      · next hp => have := peek_in (s := s) (i := skip s i) (by omega); exact nm_bad (by omega) h
      · unfold wdP at h
        split at h
        · next e he => simp only [Except.error.injEq] at h; subst h; exact word_bad h1 he
        · next x a k hw =>
          have h2 := word_ok h1 hw
          exact kind_bad hf hb h2.2.2.2.1 h2.2.1 h
theorem gifts_bad {s : ByteArray} : ∀ (f : Nat) (p : PatT) (k : Nat) {er : Er}, k ≤ s.size → giftsP s f p k = .error er → er.2 ≤ s.size
  | 0, p, k, er, _, h => by cases h
  | f + 1, p, k, er, hk, h => by
    rw [giftsP] at h
    have h1 := (isP_le (c := 46) hk).1
    have h2 := (isP_le (c := 36) h1).1
    split at h
    · split at h
      · next e he => simp only [Except.error.injEq] at h; subst h; exact name_bad h1 he
      · next nm k1 hn => exact gifts_bad f _ _ (name_ok h1 hn).2 h
    · split at h
      · split at h
        · next e he => simp only [Except.error.injEq] at h; subst h; exact name_bad h2 he
        · next nm k1 hn => exact gifts_bad f _ _ (name_ok h2 hn).2 h
      · cases h
theorem head_bad {s : ByteArray} {inner : Nat → Res PatT} (hf : InnerFwd s inner) (hb : BadIn s inner) : BadIn s (headP inner s) := by
  intro i er hi h
  have h1 := (isP_le (c := 40) hi).1
  unfold headP at h
  split at h
  · split at h
    · next e he => simp only [Except.error.injEq] at h; subst h; exact hb _ _ h1 he
    · next p k hp =>
      have h2 := hf _ _ _ h1 hp
      split at h
      · next e he => simp only [Except.error.injEq] at h; subst h; exact need_bad h2.2 he
      · cases h
  · exact primary_bad hf hb _ _ h1 h
theorem item_bad {s : ByteArray} {inner : Nat → Res PatT} (hf : InnerFwd s inner) (hb : BadIn s inner) : BadIn s (itemP inner s) := by
  intro i er hi h
  unfold itemP at h
  split at h
  · next e he => simp only [Except.error.injEq] at h; subst h; exact head_bad hf hb _ _ hi he
  · next p k hp => exact gifts_bad _ _ _ (head_fwd hf hi hp).2 h
theorem catGo_bad {s : ByteArray} {inner : Nat → Res PatT} (hf : InnerFwd s inner) (hb : BadIn s inner) : ∀ (f : Nat) (l : List PatT) (k : Nat) {er : Er}, k ≤ s.size → catGo inner s f l k = .error er → er.2 ≤ s.size
  | 0, l, k, er, _, h => by cases h
  | f + 1, l, k, er, hk, h => by
    rw [catGo] at h
    split at h
    · split at h
      · next e he => simp only [Except.error.injEq] at h; subst h; exact item_bad hf hb _ _ (skip_le hk) he
      · next p k1 hp => exact catGo_bad hf hb f _ _ (item_fwd hf _ _ _ (skip_le hk) hp).2 h
    · cases h
theorem cat_bad {s : ByteArray} {inner : Nat → Res PatT} (hf : InnerFwd s inner) (hb : BadIn s inner) : BadIn s (catP inner s) := by
  intro i er hi h
  unfold catP at h
  split at h
  · next e he => simp only [Except.error.injEq] at h; subst h; exact item_bad hf hb _ _ hi he
  · next p k hp => exact catGo_bad hf hb _ _ _ (item_fwd hf _ _ _ hi hp).2 h
theorem altGo_bad {s : ByteArray} {inner : Nat → Res PatT} (hf : InnerFwd s inner) (hb : BadIn s inner) : ∀ (f : Nat) (l : List PatT) (k : Nat) {er : Er}, k ≤ s.size → altGo inner s f l k = .error er → er.2 ≤ s.size
  | 0, l, k, er, _, h => by cases h
  | f + 1, l, k, er, hk, h => by
    rw [altGo] at h
    have h1 := (isP_le (c := 124) hk).1
    split at h
    · split at h
      · next e he => simp only [Except.error.injEq] at h; subst h; exact cat_bad hf hb _ _ h1 he
      · next p k1 hp => exact altGo_bad hf hb f _ _ (cat_fwd hf _ _ _ h1 hp).2 h
    · cases h
theorem alt_bad {s : ByteArray} {inner : Nat → Res PatT} (hf : InnerFwd s inner) (hb : BadIn s inner) : BadIn s (altP inner s) := by
  intro i er hi h
  unfold altP at h
  split at h
  · next e he => simp only [Except.error.injEq] at h; subst h; exact cat_bad hf hb _ _ hi he
  · next p k hp => exact altGo_bad hf hb _ _ _ (cat_fwd hf _ _ _ hi hp).2 h
theorem inner_bad (s : ByteArray) : ∀ m, BadIn s (innerP s m)
  | 0 => fun i er hi h => by simp only [innerP, Except.error.injEq] at h; subst h; exact hi
  | m + 1 => fun i er hi h => alt_bad (inner_fwd s m) (inner_bad s m) i er hi h
theorem read_place (s : ByteArray) : (readQ s).2.2 ≤ s.size := by
  unfold readQ
  cases h : readP s with
  | ok p => exact Nat.zero_le _
  | error er =>
    show er.2 ≤ s.size
    unfold readP at h
    split at h
    · simp only [Except.error.injEq] at h; subst h; exact Nat.zero_le _
    · split at h
      · next e he => simp only [Except.error.injEq] at h; subst h; exact alt_bad (inner_fwd s 200) (inner_bad s 200) _ _ (Nat.zero_le _) he
      · next p k hp =>
        have h2 := alt_fwd (inner_fwd s 200) _ _ _ (Nat.zero_le _) hp
        split at h
        · simp only [Except.error.injEq] at h; subst h; exact skip_le h2.2
        · split at h
          · cases h
          · simp only [Except.error.injEq] at h; subst h; exact Nat.zero_le _
end Go.Proofs.YtlnhcgihpclpaaaGreatDoor

namespace Go.Proofs.YtlnhcgihpclpaaaGreatDoor
set_option linter.all false
open Go.RowKit

set_option maxRecDepth 100000 in
theorem loadSt {w : World} {b o : Nat} {sa : StA} {s : StT} (hc : ∀ i (h : i < 24), w.cell? ⟨b, o + i, none⟩ = some ((stCells sa s)[i]'(by simpa [stCells] using h))) :
    (Instr.loadAt 49 (.pointer (some ⟨b, o, none⟩))).run Tryz.prog w = .ok (stVal sa s) w := by
  have h1 := run_loadCells_list (P := Tryz.prog) w ⟨b, o, none⟩ (stCells sa s) (fun j v hv => by
    obtain ⟨hlt, rfl⟩ := List.getElem?_eq_some_iff.1 hv
    have e1 : (⟨b, o, none⟩ : Addr).add j = ⟨b, o + j, none⟩ := by unfold Addr.add; split <;> simp_all
    rw [e1]; exact hc j (by simpa [stCells] using hlt))
  have hag : (isAgg 49).run Tryz.prog w = .ok true w := by kernel_rfl
  have hsz : (sizeOf 49).run Tryz.prog w = .ok 24 w := by kernel_rfl
  have hlen : (stCells sa s).length = 24 := rfl
  rw [hlen] at h1
  unfold Instr.loadAt loadVar
  simp only [Instr.sureAddr, Sem.run_bind, Sem.run_pure, Result.andThen_ok, hag, hsz, h1, if_true]
  rfl
set_option maxRecDepth 100000 in
theorem storeSt {w : World} {g : Nat} {old : Array Value} {sa : StA} {s : StT} (hg : w.heap[g]? = some (.cells old 49 (0, 0))) (ho : old.size = 24) :
    ∃ w', (Instr.storeAt 49 (.pointer (some ⟨g, 0, none⟩)) (stVal sa s)).run Tryz.prog w = .ok () w' ∧ StB g sa s w' ∧ Kept (· = g) w w' := by
  have h := run_storeVar_row (P := Tryz.prog) w g 49 49 old (stCells sa s).toArray hg (by kernel_rfl) (by rw [ho]; rfl) (by simp [stCells, Value.oneCell'])
  refine ⟨_, h, ?_, ?_⟩
  · exact setRow_heap w g old _ _ _ hg
  · exact ⟨rfl, rfl, rfl, by simp, fun k _ hx => setRow_other w g k _ hx⟩
theorem wpList_load_st {ops : Array Oper} {rest : List Oper} {o : Oper} {a : Act} {Q : Exit → Act → World → Prop} {w : World} (hgd : o.guard = none) (p : Operand) (ho : o.op = .load 49 p)
    (b of : Nat) (hp : a.eval p = .pointer (some ⟨b, of, none⟩)) (sa : StA) (s : StT) (hc : ∀ i (h : i < 24), w.cell? ⟨b, of + i, none⟩ = some ((stCells sa s)[i]'(by simpa [stCells] using h)))
    (h : wpList Tryz.prog ops Q rest (a.put o.dst (stVal sa s)) w) : wpList Tryz.prog ops Q (o :: rest) a w := by
  refine wpList_plain hgd fun K hK => ?_
  have hr : (execOp a.eval o).run Tryz.prog w = .ok (.value (stVal sa s)) w := by
    unfold execOp
    rw [ho]
    simp only [hp, Sem.run_bind, loadSt hc, Result.andThen_ok, Sem.run_pure]
  unfold Oper.wp
  rw [hr]
  exact hK _ _ h
theorem wpList_store_st {ops : Array Oper} {rest : List Oper} {o : Oper} {a : Act} {Q : Exit → Act → World → Prop} {w : World} (hgd : o.guard = none) (p x : Operand) (ho : o.op = .store 49 p x)
    (g : Nat) (hp : a.eval p = .pointer (some ⟨g, 0, none⟩)) (sa : StA) (s : StT) (hx : a.eval x = stVal sa s) (old : Array Value) (hg : w.heap[g]? = some (.cells old 49 (0, 0))) (hold : old.size = 24)
    (h : ∀ w', StB g sa s w' → Kept (· = g) w w' → wpList Tryz.prog ops Q rest (a.put o.dst undef) w') : wpList Tryz.prog ops Q (o :: rest) a w := by
  refine wpList_plain hgd fun K hK => ?_
  obtain ⟨w', hr, hB, hk⟩ := storeSt (sa := sa) (s := s) hg hold
  have hr2 : (execOp a.eval o).run Tryz.prog w = .ok .skip w' := by
    unfold execOp
    rw [ho]
    simp only [hp, hx, Sem.run_bind, hr, Result.andThen_ok, Sem.run_pure]
  unfold Oper.wp
  rw [hr2]
  exact hK _ _ (h w' hB hk)
end Go.Proofs.YtlnhcgihpclpaaaGreatDoor
