/-  -/
import Derived.Test.YtcfcdobgpldoiaaGreatDoorBase
import Derived.Test.YtcfcdobgpldoiaaGreatDoorSm14
namespace Go.Proofs.YtcfcdobgpldoiaaGreatDoor
set_option linter.all false
open Go.RowKit

theorem isEmpty_size {t : ByteArray} : t.toList.isEmpty = true ↔ t.size = 0 := by
  rw [ByteArray.toList_eq]; simp only [List.isEmpty_iff, ByteArray.size]
  rw [← Array.length_toList, List.length_eq_zero_iff]
theorem isEmpty_size' {t : ByteArray} : t.toList.isEmpty = false ↔ 0 < t.size := by
  rw [← Bool.not_eq_true, isEmpty_size]; omega
def upperN (c : UInt8) : Bool := decide (65 ≤ c.toNat) && decide (c.toNat ≤ 90)
def digitN (c : UInt8) : Bool := decide (48 ≤ c.toNat) && decide (c.toNat ≤ 57)
def namedAt (i : Nat) (c : UInt8) : Bool := upperN c || (i != 0 && digitN c)
def namedF (s : ByteArray) : Bool := decide (1 ≤ s.size) && decide (s.size ≤ 16) && (List.range s.size).all fun i => namedAt i (s.data.toList.getD i 0)
theorem getD_at {s : ByteArray} {k : Nat} (h : k < s.size) : s.data.toList.getD k 0 = s[k] := by
  have : k < s.data.toList.length := by simpa using h
  rw [List.getD_eq_getElem?_getD, List.getElem?_eq_getElem this]; rfl
theorem named_no {s : ByteArray} {k : Nat} (h : k < s.size) (hn : namedAt k s[k] = false) : namedF s = false := by
  unfold namedF
  rw [Bool.and_eq_false_iff]; right
  rw [List.all_eq_false]
  exact ⟨k, by simpa using h, by rw [getD_at h, hn]; simp⟩
theorem named_yes {s : ByteArray} (h1 : 1 ≤ s.size) (h2 : s.size ≤ 16) (h : ∀ j, j < s.size → namedAt j (s.data.toList.getD j 0) = true) : namedF s = true := by
  unfold namedF
  simp only [Bool.and_eq_true, decide_eq_true_eq, List.all_eq_true, List.mem_range]
  exact ⟨⟨h1, h2⟩, h⟩
theorem na_upper {i : Nat} {c : UInt8} (h1 : 65 ≤ c.toNat) (h2 : c.toNat ≤ 90) : namedAt i c = true := by simp [namedAt, upperN, h1, h2]
theorem na_digit {i : Nat} {c : UInt8} (h0 : i ≠ 0) (h1 : 48 ≤ c.toNat) (h2 : c.toNat ≤ 57) : namedAt i c = true := by simp [namedAt, digitN, h0, h1, h2]
theorem na_no {i : Nat} {c : UInt8} (h1 : c.toNat < 65 ∨ 90 < c.toNat) (h2 : i = 0 ∨ c.toNat < 48 ∨ 57 < c.toNat) : namedAt i c = false := by
  have a : upperN c = false := by unfold upperN; rcases h1 with h | h <;> simp <;> omega
  unfold namedAt; rw [a]
  rcases h2 with h | h | h
  · simp [h]
  · simp [digitN]; intro; omega
  · simp [digitN]; omega

set_option maxHeartbeats 400000 in
theorem named_any (s : ByteArray) (w : World) (hs : s.size ≤ maxLen) :
    Calls Tryz.prog 16 #[.string s] w fun e w' => e = .returned (.bool (namedF s)) ∧ w = w' := by
  unfold maxLen at hs
  by_cases h0 : s.size < 1
  · go_enter Tryz.func16, Tryz.ntmps16
    go_wp2
    go_ret
    exact ⟨by unfold namedF; rw [decide_eq_false (by omega)]; rfl, rfl⟩
  by_cases h1 : 16 < s.size
  · go_enter Tryz.func16, Tryz.ntmps16
    go_wp2
    go_ret
    exact ⟨by unfold namedF; rw [decide_eq_false (show ¬ s.size ≤ 16 by omega)]; simp, rfl⟩
  go_enter Tryz.func16, Tryz.ntmps16
  go_wp2
  go_loop [15] (fun i => ∃ k : Nat, k ≤ s.size ∧ i = .int .i64 k ∧ Hid (∀ j, j < k → namedAt j (s.data.toList.getD j 0) = true)) (fun i => s.size - (intOf i).toNat)
  case atStart => exact ⟨0, Nat.zero_le _, rfl, by intro j hj; omega⟩
  case round =>
    obtain ⟨k, hk, rfl, hok⟩ := hrel
    by_cases hlt : k < s.size
    · have step : namedAt k s[k] = true → ∀ j, j < k + 1 → namedAt j (s.data.toList.getD j 0) = true := by
        intro hn j hj
        rcases Nat.lt_or_ge j k with h | h
        · exact hok.out j h
        · obtain rfl : j = k := by omega
          rw [getD_at hlt]; exact hn
      have Step := Lib.hid step; clear step
      rcases (show (65 ≤ s[k].toNat ∧ s[k].toNat ≤ 90) ∨ ((s[k].toNat < 65 ∨ 90 < s[k].toNat) ∧ k = 0) ∨ ((48 ≤ s[k].toNat ∧ s[k].toNat ≤ 57) ∧ 0 < k) ∨ ((s[k].toNat < 48 ∨ (57 < s[k].toNat ∧ s[k].toNat < 65)) ∧ 0 < k) ∨ (90 < s[k].toNat ∧ 0 < k) by omega) with ⟨a, b⟩ | ⟨a, b⟩ | ⟨⟨a, b⟩, c⟩ | ⟨a, c⟩ | ⟨a, c⟩
      · go_wp2
        go_round
        case rel => exact ⟨k + 1, by omega, by go_num, Step.out (na_upper a b)⟩
        case measure => simp [intOf]; omega
      · have fin := Lib.hid (named_no hlt (na_no a (.inl b)))
        subst b
        rcases a with a | a
        · go_wp2
          go_ret
          exact ⟨by rw [fin.out]; try rfl, rfl⟩
        · have q : decide ((s[0].toNat : Int) ≤ 90) = false := decide_eq_false (by omega)
          go_wp2
          go_ret
          exact ⟨by rw [fin.out]; try rfl, rfl⟩
      · have z : ((k : Int) == 0) = false := by simp; omega
        have q : decide ((s[k].toNat : Int) ≤ 57) = true := decide_eq_true (by omega)
        go_wp2
        go_round
        case rel => exact ⟨k + 1, by omega, by go_num, Step.out (na_digit (by omega) a b)⟩
        case measure => simp [intOf]; omega
      · have fin := Lib.hid (named_no hlt (na_no (by omega) (.inr (by omega))))
        have z : ((k : Int) == 0) = false := by simp; omega
        rcases a with a | ⟨a, b⟩ <;>
        · try have q : decide ((s[k].toNat : Int) ≤ 57) = false := decide_eq_false (by omega)
          go_wp2
          go_ret
          exact ⟨by rw [fin.out]; try rfl, rfl⟩
      · have fin := Lib.hid (named_no hlt (na_no (by omega) (.inr (by omega))))
        have z : ((k : Int) == 0) = false := by simp; omega
        have q : decide ((s[k].toNat : Int) ≤ 90) = false := decide_eq_false (by omega)
        have q' : decide ((s[k].toNat : Int) ≤ 57) = false := decide_eq_false (by omega)
        go_wp2
        go_ret
        exact ⟨by rw [fin.out]; try rfl, rfl⟩
    · obtain rfl : k = s.size := by omega
      have fin := Lib.hid (named_yes (by omega) (by omega) hok.out)
      go_wp2
      go_ret
      exact ⟨by rw [fin.out]; try rfl, rfl⟩
end Go.Proofs.YtcfcdobgpldoiaaGreatDoor

namespace Go.Proofs.YtcfcdobgpldoiaaGreatDoor
set_option linter.all false
open Go.RowKit

def isTextK (k : Int) : Prop := 3 ≤ k ∧ k ≤ 7
def isNumK (k : Int) : Prop := k = 2 ∨ (8 ≤ k ∧ k ≤ 11)
def isNameK (k : Int) : Prop := 21 ≤ k ∧ k ≤ 24
instance (k : Int) : Decidable (isTextK k) := by unfold isTextK; exact inferInstance
instance (k : Int) : Decidable (isNumK k) := by unfold isNumK; exact inferInstance
instance (k : Int) : Decidable (isNameK k) := by unfold isNameK; exact inferInstance
def leastK (k : Int) : Nat := if k = 18 ∨ k = 19 then 2 else if 20 ≤ k ∧ k ≤ 22 then 1 else 0
def mostK (k : Int) : Nat := if k = 18 ∨ k = 19 then 4096 else if 20 ≤ k ∧ k ≤ 22 then 1 else 0
def nodeF (p : PatT) : Int :=
  if p.kind < 1 ∨ 24 < p.kind then 1
  else if (p.kind = 1 ∨ isTextK p.kind) ∧ 65536 < p.text.size then 4
  else if isTextK p.kind ∧ p.text.size = 0 then 8
  else if isNumK p.kind ∧ (p.n < 0 ∨ 65536 < p.n) then 3
  else if isNameK p.kind ∧ namedF p.name = false then 7
  else if p.kids.length < leastK p.kind ∨ mostK p.kind < p.kids.length then 5 else 0

section
variable {k n : Int} {t nm : ByteArray} {kids : List PatT}
theorem node_lit : nodeF (.mk 1 t n nm kids) = if 65536 < t.size then 4 else if kids.length < leastK 1 ∨ mostK 1 < kids.length then 5 else 0 := by
  have b : ¬ isTextK 1 := by decide
  have c : ¬ isNameK 1 := by decide
  have d : ¬ isNumK 1 := by decide
  have a : ¬ ((1:Int) < 1 ∨ 24 < (1:Int)) := by omega
  simp only [nodeF, PatT.kind_mk, PatT.text_mk, PatT.n_mk, PatT.name_mk, PatT.kids_mk, a, b, c, d, if_false, true_and, true_or, false_and]
  rfl
theorem node_text (h : isTextK k) : nodeF (.mk k t n nm kids) = if 65536 < t.size then 4 else if t.size = 0 then 8 else if kids.length < leastK k ∨ mostK k < kids.length then 5 else 0 := by
  have h' := h; unfold isTextK at h'
  have a : ¬ (k < 1 ∨ 24 < k) := by omega
  have b : ¬ isNumK k := by unfold isNumK; omega
  have c : ¬ isNameK k := by unfold isNameK; omega
  simp only [nodeF, PatT.kind_mk, PatT.text_mk, PatT.n_mk, PatT.name_mk, PatT.kids_mk, a, b, c, h, if_false, true_and, or_true, false_and]
  rfl
theorem node_num (h : isNumK k) : nodeF (.mk k t n nm kids) = if n < 0 ∨ 65536 < n then 3 else if kids.length < leastK k ∨ mostK k < kids.length then 5 else 0 := by
  have h' := h; unfold isNumK at h'
  have a : ¬ (k < 1 ∨ 24 < k) := by omega
  have b : ¬ isTextK k := by unfold isTextK; omega
  have c : ¬ isNameK k := by unfold isNameK; omega
  have d : ¬ k = 1 := by omega
  simp only [nodeF, PatT.kind_mk, PatT.text_mk, PatT.n_mk, PatT.name_mk, PatT.kids_mk, a, b, c, d, h, if_false, true_and, or_false, false_and]
  rfl
theorem node_name (h : isNameK k) : nodeF (.mk k t n nm kids) = if namedF nm = false then 7 else if kids.length < leastK k ∨ mostK k < kids.length then 5 else 0 := by
  have h' := h; unfold isNameK at h'
  have a : ¬ (k < 1 ∨ 24 < k) := by omega
  have b : ¬ isTextK k := by unfold isTextK; omega
  have c : ¬ isNumK k := by unfold isNumK; omega
  have d : ¬ k = 1 := by omega
  simp only [nodeF, PatT.kind_mk, PatT.text_mk, PatT.n_mk, PatT.name_mk, PatT.kids_mk, a, b, c, d, h, if_false, true_and, or_false, false_and]
  rfl
theorem node_other (h : 12 ≤ k ∧ k ≤ 20) : nodeF (.mk k t n nm kids) = if kids.length < leastK k ∨ mostK k < kids.length then 5 else 0 := by
  have a : ¬ (k < 1 ∨ 24 < k) := by omega
  have b : ¬ isTextK k := by unfold isTextK; omega
  have c : ¬ isNumK k := by unfold isNumK; omega
  have c' : ¬ isNameK k := by unfold isNameK; omega
  have d : ¬ k = 1 := by omega
  simp only [nodeF, PatT.kind_mk, PatT.text_mk, PatT.n_mk, PatT.name_mk, PatT.kids_mk, a, b, c, c', d, if_false, or_false, false_and]
  rfl
/-- What the switch lets by. -/
def Tail (k : Int) (kids : List PatT) (r : Int) : Prop := r = if kids.length < leastK k ∨ mostK k < kids.length then 5 else 0
def CutR (k : Int) (t : ByteArray) (n : Int) (nm : ByteArray) (kids : List PatT) (l m : Value) : Prop :=
  l = .int .i64 (leastK k) ∧ m = .int .i64 (mostK k) ∧ Tail k kids (nodeF (.mk k t n nm kids))
theorem bnot_t {b : Bool} (h : (!b) = true) : b = false := by simpa using h
theorem bnot_f {b : Bool} (h : (!b) = false) : b = true := by simpa using h
theorem text_of {k : Int} (h : (k == 3) = true ∨ (k == 4) = true ∨ (k == 5) = true ∨ (k == 6) = true ∨ (k == 7) = true) : isTextK k := by
  simp only [beq_iff_eq] at h; unfold isTextK; omega
theorem num_of {k : Int} (h : (k == 2) = true ∨ (k == 8) = true ∨ (k == 9) = true ∨ (k == 10) = true ∨ (k == 11) = true) : isNumK k := by
  simp only [beq_iff_eq] at h; unfold isNumK; omega
theorem name_of {k : Int} (h : (k == 21) = true ∨ (k == 22) = true ∨ (k == 23) = true ∨ (k == 24) = true) : isNameK k := by
  simp only [beq_iff_eq] at h; unfold isNameK; omega
variable {k n : Int} {t nm : ByteArray} {kids : List PatT}
theorem r_lit (h : (k == 1) = true) (h1 : 65536 < (t.size : Int)) : nodeF (.mk k t n nm kids) = 4 := by
  obtain rfl : k = 1 := by simpa using h
  rw [node_lit, if_pos (by omega)]
theorem c_lit (h : (k == 1) = true) (h1 : (t.size : Int) ≤ 65536) : CutR k t n nm kids (.int .i64 0) (.int .i64 0) := by
  obtain rfl : k = 1 := by simpa using h
  refine ⟨rfl, rfl, ?_⟩; unfold Tail; rw [node_lit, if_neg (by omega)]
theorem r_text4 (h : isTextK k) (h1 : 65536 < (t.size : Int)) : nodeF (.mk k t n nm kids) = 4 := by rw [node_text h, if_pos (by omega)]
theorem r_text8 (h : isTextK k) (h1 : (t.size : Int) ≤ 65536) (h2 : t.toList.isEmpty = true) : nodeF (.mk k t n nm kids) = 8 := by rw [node_text h, if_neg (by omega), if_pos (isEmpty_size.1 h2)]
theorem plain_zero (h : k < 18 ∨ 22 < k) : leastK k = 0 ∧ mostK k = 0 := by
  have a : ¬ (k = 18 ∨ k = 19) := by omega
  have b : ¬ (20 ≤ k ∧ k ≤ 22) := by omega
  simp [leastK, mostK, a, b]
theorem c_of (h : k < 18 ∨ 22 < k) (h1 : Tail k kids (nodeF (.mk k t n nm kids))) : CutR k t n nm kids (.int .i64 0) (.int .i64 0) := by
  obtain ⟨a, b⟩ := plain_zero h; unfold CutR; rw [a, b]; exact ⟨rfl, rfl, h1⟩
theorem c_text (h : isTextK k) (h1 : (t.size : Int) ≤ 65536) (h2 : t.toList.isEmpty = false) : CutR k t n nm kids (.int .i64 0) (.int .i64 0) := by
  refine c_of (by unfold isTextK at h; omega) ?_; unfold Tail; rw [node_text h, if_neg (by omega), if_neg (by have := isEmpty_size'.1 h2; omega)]
theorem r_num (h : isNumK k) (h1 : n < 0 ∨ 65536 < n) : nodeF (.mk k t n nm kids) = 3 := by rw [node_num h, if_pos h1]
theorem c_num (h : isNumK k) (h1 : 0 ≤ n ∧ n ≤ 65536) : CutR k t n nm kids (.int .i64 0) (.int .i64 0) := by
  refine c_of (by unfold isNumK at h; omega) ?_; unfold Tail; rw [node_num h, if_neg (by omega)]
theorem r_name (h : isNameK k) (h1 : namedF nm = false) : nodeF (.mk k t n nm kids) = 7 := by rw [node_name h, if_pos h1]
theorem c_name2 (h : (k == 23) = true ∨ (k == 24) = true) (h1 : namedF nm = true) : CutR k t n nm kids (.int .i64 0) (.int .i64 0) := by
  simp only [beq_iff_eq] at h
  refine c_of (by omega) ?_; unfold Tail; rw [node_name (by unfold isNameK; omega), if_neg (by simp [h1])]
theorem c_name1 (h : (k == 21) = true ∨ (k == 22) = true) (h1 : namedF nm = true) : CutR k t n nm kids (.int .i64 1) (.int .i64 1) := by
  simp only [beq_iff_eq] at h
  have a : leastK k = 1 := by unfold leastK; rw [if_neg (by omega), if_pos (by omega)]
  have b : mostK k = 1 := by unfold mostK; rw [if_neg (by omega), if_pos (by omega)]
  unfold CutR; rw [a, b]; refine ⟨rfl, rfl, ?_⟩; unfold Tail; rw [node_name (by unfold isNameK; omega), if_neg (by simp [h1])]
theorem c_cat (h : (k == 18) = true ∨ (k == 19) = true) : CutR k t n nm kids (.int .i64 2) (.int .i64 4096) := by
  simp only [beq_iff_eq] at h
  have a : leastK k = 2 := by unfold leastK; rw [if_pos (by omega)]
  have b : mostK k = 4096 := by unfold mostK; rw [if_pos (by omega)]
  unfold CutR; rw [a, b]; exact ⟨rfl, rfl, node_other (by omega)⟩
theorem c_arbno (h : (k == 20) = true) : CutR k t n nm kids (.int .i64 1) (.int .i64 1) := by
  simp only [beq_iff_eq] at h; subst h; exact ⟨rfl, rfl, node_other (by omega)⟩
theorem c_other (h : 12 ≤ k ∧ k ≤ 17) : CutR k t n nm kids (.int .i64 0) (.int .i64 0) := c_of (by omega) (node_other (by omega))
theorem fin5 {l m : Value} (h : CutR k t n nm kids l m) : ∃ a b : Nat, l = .int .i64 a ∧ m = .int .i64 b ∧ nodeF (.mk k t n nm kids) = if (kids.length : Int) < a ∨ (b : Int) < kids.length then 5 else 0 := by
  obtain ⟨rfl, rfl, h⟩ := h
  refine ⟨_, _, rfl, rfl, ?_⟩
  unfold Tail at h; rw [h]
  by_cases hc : kids.length < leastK k ∨ mostK k < kids.length
  · rw [if_pos hc, if_pos (by omega)]
  · rw [if_neg hc, if_neg (by omega)]
end

set_option maxRecDepth 100000 in
set_option maxHeartbeats 4000000 in
theorem wrong_any (p : PatT) (b o : Nat) (S : Nat → Prop) (w : World) (hp : PatAt w S b o p) :
    Calls Tryz.prog 37 #[.pointer (some ⟨b, o, none⟩)] w fun e w' => e = .returned (.int .i64 (nodeF p)) ∧ w = w' := by
  obtain ⟨k, t, n, nm, kids⟩ := p
  unfold PatAt at hp
  obtain ⟨_, ⟨ht, hn0, hk⟩, h0, h1, h2, h3, ka, cap, h4, hks⟩ := hp
  clear hks
  have hn : nm.size ≤ maxLen := by unfold maxLen; omega
  by_cases hk0 : k < 1
  · go_enter Tryz.func37, Tryz.ntmps37
    go_wp2_with fail
    go_ret
    exact ⟨by simp [nodeF, hk0], rfl⟩
  by_cases hk1 : 24 < k
  · go_enter Tryz.func37, Tryz.ntmps37
    go_wp2_with fail
    go_ret
    exact ⟨by simp [nodeF, hk1], rfl⟩
  go_enter Tryz.func37, Tryz.ntmps37
  go_upto_block 0 with fail
  go_cut [3, 4] (fun l m w' => w = w' ∧ CutR k t n nm kids l m)
  case first =>
    go_wp2_with (go_at_call 16; refine (named_any _ _ hn).mono ?_; rintro e w' ⟨rfl, rfl⟩)
    all_goals
      first
        | (go_meet; go_light; refine ⟨rfl, ?_⟩; first
            | exact c_lit ‹_› ‹_›
            | exact c_text (text_of (by first | exact .inl ‹_› | exact .inr (.inl ‹_›) | exact .inr (.inr (.inl ‹_›)) | exact .inr (.inr (.inr (.inl ‹_›))) | exact .inr (.inr (.inr (.inr ‹_›))))) ‹_› ‹_›
            | exact c_num (num_of (by first | exact .inl ‹_› | exact .inr (.inl ‹_›) | exact .inr (.inr (.inl ‹_›)) | exact .inr (.inr (.inr (.inl ‹_›))) | exact .inr (.inr (.inr (.inr ‹_›))))) (by omega)
            | exact c_name1 (by first | exact .inl ‹_› | exact .inr ‹_›) (by first | assumption | exact bnot_f ‹_›)
            | exact c_name2 (by first | exact .inl ‹_› | exact .inr ‹_›) (by first | assumption | exact bnot_f ‹_›)
            | exact c_cat (by first | exact .inl ‹_› | exact .inr ‹_›)
            | exact c_arbno ‹_›
            | exact c_other (by simp only [beq_eq_false_iff_ne] at *; omega))
        | (go_ret; go_light; refine ⟨ret_int (Eq.symm ?_), rfl⟩; first
            | exact r_lit ‹_› ‹_›
            | exact r_text4 (text_of (by first | exact .inl ‹_› | exact .inr (.inl ‹_›) | exact .inr (.inr (.inl ‹_›)) | exact .inr (.inr (.inr (.inl ‹_›))) | exact .inr (.inr (.inr (.inr ‹_›))))) ‹_›
            | exact r_text8 (text_of (by first | exact .inl ‹_› | exact .inr (.inl ‹_›) | exact .inr (.inr (.inl ‹_›)) | exact .inr (.inr (.inr (.inl ‹_›))) | exact .inr (.inr (.inr (.inr ‹_›))))) ‹_› ‹_›
            | exact r_num (num_of (by first | exact .inl ‹_› | exact .inr (.inl ‹_›) | exact .inr (.inr (.inl ‹_›)) | exact .inr (.inr (.inr (.inl ‹_›))) | exact .inr (.inr (.inr (.inr ‹_›))))) (by omega)
            | exact r_name (name_of (by first | exact .inl ‹_› | exact .inr (.inl ‹_›) | exact .inr (.inr (.inl ‹_›)) | exact .inr (.inr (.inr ‹_›)))) (by first | assumption | exact bnot_t ‹_›))
  case rest =>
    obtain ⟨rfl, hc⟩ := hcut
    obtain ⟨a, b, rfl, rfl, he⟩ := fin5 hc
    have He := Lib.hid he; clear he hc
    go_wp2_with fail
    all_goals
      go_ret
      refine ⟨ret_int (Eq.symm ?_), rfl⟩
      rw [He.out]
      first | rw [if_pos (by omega)] | rw [if_neg (by omega)]
end Go.Proofs.YtcfcdobgpldoiaaGreatDoor

namespace Go.Proofs.YtcfcdobgpldoiaaGreatDoor
set_option linter.all false
open Go.RowKit

def wrongStep (_ : Int) (p : PatT) (_ : Nat) : Int × Bool := (nodeF p, nodeF p == 0)
def WrongI (c : Nat) (e : Int) (w : World) : Prop := Cel w c 26 (.int .i64 e)

set_option maxRecDepth 100000 in
set_option maxHeartbeats 400000 in
theorem wrong1_any (c : Nat) (st : Int) (p : PatT) (b o d : Nat) (S : Nat → Prop) (w : World) (hI : WrongI c st w) (hp : PatAt w S b o p) :
    Calls Tryz.prog 36 #[.pointer (some ⟨b, o, none⟩), .int .i64 (d : Nat), .pointer (some ⟨c, 0, none⟩)] w
      (WalkPost (WrongI c) (· = c) (wrongStep st p d) w) := by
  have q1 := hI.cell; have f1 := hI.free
  have K : ∀ u, u = nodeF p → WalkPost (WrongI c) (· = c) (wrongStep st p d) w (.returned (.bool (u == 0))) (w.setCell ⟨c, 0, none⟩ (.int .i64 u)) := by
    rintro u rfl; exact ⟨rfl, hI.set _, (Kept.refl _ w).setCell (.inl (by simp)) _⟩
  have HK := Lib.hid K; clear K
  clear hI
  go_enter Tryz.func36, Tryz.ntmps36
  go_wp2_with fail
  refine (wrong_any p b o S _ hp).mono ?_
  rintro e w1 ⟨rfl, rfl⟩
  go_wp2_with fail
  go_ret
  exact HK.out _ rfl

/-- What is wrong with a pattern, as the program finds it. -/
def wrongF (p : PatT) : Int := if (walkF sizeStep (0, 0) p 1).2 then (walkF wrongStep 0 p 1).1 else 4

set_option maxRecDepth 100000 in
set_option maxHeartbeats 400000 in
theorem Wrong_any (p : PatT) (v : Value) (w : World) (hp : PatV w (· < w.heap.size) v p) (hsz : sizeT p ≤ 100000000) :
    Calls Tryz.prog 17 #[v] w (fun e w' => e = .returned (.int .i64 (wrongF p)) ∧ Kept Nix w w') := by
  obtain ⟨c, hv, hb⟩ := hp.box 30 (fun b hb => hb)
  have hp0 := hp
  obtain ⟨ka, cap, rfl, hz, hk⟩ := hp
  simp only [Value.agg.injEq] at hv; subst hv
  have hmf : ∀ (fn : Fn) (first cap : Array Value) (w : World), (Instr.makeFunc fn first cap).run Tryz.prog w = .ok (.func fn first cap) w := fun _ _ _ _ => rfl
  go_enter Tryz.func17, Tryz.ntmps17
  go_wp2_with fail
  refine (size_any p _ _ ⟨ka, cap, rfl, hz, PatsAt.same (fun b hb => Below.heap_alloc _ _ _ hb) (fun b hb => by simp; omega) _ _ hk⟩ hsz).mono ?_
  rintro e w1 ⟨rfl, hk1⟩
  have HK1 : Hid (Kept Nix w w1) := ((Kept.refl Nix w).alloc _).quiet hk1
  have hb1 := hb.kept hk1 (fun b hb => ⟨by simp; omega, fun h => h⟩)
  have hsz1 : w.heap.size + 1 ≤ w1.heap.size := by have := hk1.size; simpa using this
  clear hk hp0 hb hk1
  cases hr : walkF sizeStep (0, 0) p 1 with
  | mk st ok =>
  obtain ⟨n, d⟩ := st
  have e1 : sizeF p = sizeR ((n, d), ok) := by simp [sizeF, hr]
  cases ok with
  | false =>
    have Hf : Hid (wrongF p = 4) := by simp [wrongF, hr, Hid]
    rw [e1]; clear hr e1
    dsimp only [sizeR]
    go_wp2_with fail
    go_ret
    exact ⟨ret_int Hf.out.symm, HK1.out⟩
  | true =>
    have Hf : Hid (wrongF p = (walkF wrongStep 0 p 1).1) := by simp [wrongF, hr, Hid]
    rw [e1]; clear hr e1
    dsimp only [sizeR]
    go_wp2_with fail
    refine (walk_any 36 #[.pointer (some ⟨w1.heap.size, 0, none⟩)] (fun _ _ => by kernel_rfl) (WrongI w1.heap.size) (fun _ _ => True) wrongStep
      (fun _ _ _ _ _ _ => trivial) (· = w1.heap.size) (fun b => b < w.heap.size ∨ b = w.heap.size) 500000000 (by omega) ?cl 100000000 p 0 0 w.heap.size 0 1 _ hsz (by omega) ?i trivial ?pt ?sf).mono ?_
    case cl =>
      intro _ st p b o d w' hi _ hp' _ hd
      exact wrong1_any _ st p b o d _ w' hi hp'
    case i => exact Cel.new' rfl
    case pt => exact PatAt.same (fun b hb => by rw [Below.heap_alloc]; omega) (fun _ h => h) _ _ _ hb1
    case sf => intro b hb; simp; omega
    rintro e w2 ⟨rfl, hI2, hk2⟩
    have HK2 : Hid (Kept Nix w w2) := (HK1.out.alloc _).step hk2 (by simp; omega)
    have q1 := hI2.cell; have f1 := hI2.free
    clear hb1 hk2 hI2
    go_wp2_with fail
    go_ret
    exact ⟨ret_int Hf.out.symm, HK2.out⟩
end Go.Proofs.YtcfcdobgpldoiaaGreatDoor
