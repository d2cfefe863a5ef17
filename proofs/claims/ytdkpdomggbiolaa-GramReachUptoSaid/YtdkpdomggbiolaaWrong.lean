import Derived.Test.YtdkpdomggbiolaaSize
import Derived.Test.YtdkpdomggbiolaaNamed
namespace Go.Proofs.Ytdkpdomggbiolaa
set_option linter.all false
open Go.RowKit

def isTextK (k : Int) : Prop := 3 ≤ k ∧ k ≤ 7
def isNumK (k : Int) : Prop := k = 2 ∨ (8 ≤ k ∧ k ≤ 11)
def isNameK (k : Int) : Prop := 21 ≤ k ∧ k ≤ 24
instance (k : Int) : Decidable (isTextK k) := by unfold isTextK; exact inferInstance
instance (k : Int) : Decidable (isNumK k) := by unfold isNumK; exact inferInstance
instance (k : Int) : Decidable (isNameK k) := by unfold isNameK; exact inferInstance
def leastK (k : Int) : Nat := if k = 18 ∨ k = 19 then 2 else if 20 ≤ k ∧ k ≤ 22 then 1 else 0
def mostK (k : Int) : Nat := if k = 18 ∨ k = 19 then 4096 else if 20 ≤ k ∧ k ≤ 22 then 1 else 0
def nodeF (p : PatT) : Int :=
  if p.kind < 1 ∨ 24 < p.kind then 1
  else if (p.kind = 1 ∨ isTextK p.kind) ∧ 65536 < p.text.size then 4
  else if isTextK p.kind ∧ p.text.size = 0 then 8
  else if isNumK p.kind ∧ (p.n < 0 ∨ 65536 < p.n) then 3
  else if isNameK p.kind ∧ namedF p.name = false then 7
  else if p.kids.length < leastK p.kind ∨ mostK p.kind < p.kids.length then 5 else 0

section
variable {k n : Int} {t nm : ByteArray} {kids : List PatT}
theorem node_lit : nodeF (.mk 1 t n nm kids) = if 65536 < t.size then 4 else if kids.length < leastK 1 ∨ mostK 1 < kids.length then 5 else 0 := by
  have b : ¬ isTextK 1 := by decide
  have c : ¬ isNameK 1 := by decide
  have d : ¬ isNumK 1 := by decide
  have a : ¬ ((1:Int) < 1 ∨ 24 < (1:Int)) := by omega
  simp only [nodeF, PatT.kind_mk, PatT.text_mk, PatT.n_mk, PatT.name_mk, PatT.kids_mk, a, b, c, d, if_false, true_and, true_or, false_and]
  rfl
theorem node_text (h : isTextK k) : nodeF (.mk k t n nm kids) = if 65536 < t.size then 4 else if t.size = 0 then 8 else if kids.length < leastK k ∨ mostK k < kids.length then 5 else 0 := by
  have h' := h; unfold isTextK at h'
  have a : ¬ (k < 1 ∨ 24 < k) := by omega
  have b : ¬ isNumK k := by unfold isNumK; omega
  have c : ¬ isNameK k := by unfold isNameK; omega
  simp only [nodeF, PatT.kind_mk, PatT.text_mk, PatT.n_mk, PatT.name_mk, PatT.kids_mk, a, b, c, h, if_false, true_and, or_true, false_and]
  rfl
theorem node_num (h : isNumK k) : nodeF (.mk k t n nm kids) = if n < 0 ∨ 65536 < n then 3 else if kids.length < leastK k ∨ mostK k < kids.length then 5 else 0 := by
  have h' := h; unfold isNumK at h'
  have a : ¬ (k < 1 ∨ 24 < k) := by omega
  have b : ¬ isTextK k := by unfold isTextK; omega
  have c : ¬ isNameK k := by unfold isNameK; omega
  have d : ¬ k = 1 := by omega
  simp only [nodeF, PatT.kind_mk, PatT.text_mk, PatT.n_mk, PatT.name_mk, PatT.kids_mk, a, b, c, d, h, if_false, true_and, or_false, false_and]
  rfl
theorem node_name (h : isNameK k) : nodeF (.mk k t n nm kids) = if namedF nm = false then 7 else if kids.length < leastK k ∨ mostK k < kids.length then 5 else 0 := by
  have h' := h; unfold isNameK at h'
  have a : ¬ (k < 1 ∨ 24 < k) := by omega
  have b : ¬ isTextK k := by unfold isTextK; omega
  have c : ¬ isNumK k := by unfold isNumK; omega
  have d : ¬ k = 1 := by omega
  simp only [nodeF, PatT.kind_mk, PatT.text_mk, PatT.n_mk, PatT.name_mk, PatT.kids_mk, a, b, c, d, h, if_false, true_and, or_false, false_and]
  rfl
theorem node_other (h : 12 ≤ k ∧ k ≤ 20) : nodeF (.mk k t n nm kids) = if kids.length < leastK k ∨ mostK k < kids.length then 5 else 0 := by
  have a : ¬ (k < 1 ∨ 24 < k) := by omega
  have b : ¬ isTextK k := by unfold isTextK; omega
  have c : ¬ isNumK k := by unfold isNumK; omega
  have c' : ¬ isNameK k := by unfold isNameK; omega
  have d : ¬ k = 1 := by omega
  simp only [nodeF, PatT.kind_mk, PatT.text_mk, PatT.n_mk, PatT.name_mk, PatT.kids_mk, a, b, c, c', d, if_false, or_false, false_and]
  rfl
/-- What the switch lets by. -/
def Tail (k : Int) (kids : List PatT) (r : Int) : Prop := r = if kids.length < leastK k ∨ mostK k < kids.length then 5 else 0
def CutR (k : Int) (t : ByteArray) (n : Int) (nm : ByteArray) (kids : List PatT) (l m : Value) : Prop :=
  l = .int .i64 (leastK k) ∧ m = .int .i64 (mostK k) ∧ Tail k kids (nodeF (.mk k t n nm kids))
theorem bnot_t {b : Bool} (h : (!b) = true) : b = false := by simpa using h
theorem bnot_f {b : Bool} (h : (!b) = false) : b = true := by simpa using h
theorem text_of {k : Int} (h : (k == 3) = true ∨ (k == 4) = true ∨ (k == 5) = true ∨ (k == 6) = true ∨ (k == 7) = true) : isTextK k := by
  simp only [beq_iff_eq] at h; unfold isTextK; omega
theorem num_of {k : Int} (h : (k == 2) = true ∨ (k == 8) = true ∨ (k == 9) = true ∨ (k == 10) = true ∨ (k == 11) = true) : isNumK k := by
  simp only [beq_iff_eq] at h; unfold isNumK; omega
theorem name_of {k : Int} (h : (k == 21) = true ∨ (k == 22) = true ∨ (k == 23) = true ∨ (k == 24) = true) : isNameK k := by
  simp only [beq_iff_eq] at h; unfold isNameK; omega
variable {k n : Int} {t nm : ByteArray} {kids : List PatT}
theorem r_lit (h : (k == 1) = true) (h1 : 65536 < (t.size : Int)) : nodeF (.mk k t n nm kids) = 4 := by
  obtain rfl : k = 1 := by simpa using h
  rw [node_lit, if_pos (by omega)]
theorem c_lit (h : (k == 1) = true) (h1 : (t.size : Int) ≤ 65536) : CutR k t n nm kids (.int .i64 0) (.int .i64 0) := by
  obtain rfl : k = 1 := by simpa using h
  refine ⟨rfl, rfl, ?_⟩; unfold Tail; rw [node_lit, if_neg (by omega)]
theorem r_text4 (h : isTextK k) (h1 : 65536 < (t.size : Int)) : nodeF (.mk k t n nm kids) = 4 := by rw [node_text h, if_pos (by omega)]
theorem r_text8 (h : isTextK k) (h1 : (t.size : Int) ≤ 65536) (h2 : t.toList.isEmpty = true) : nodeF (.mk k t n nm kids) = 8 := by rw [node_text h, if_neg (by omega), if_pos (isEmpty_size.1 h2)]
theorem plain_zero (h : k < 18 ∨ 22 < k) : leastK k = 0 ∧ mostK k = 0 := by
  have a : ¬ (k = 18 ∨ k = 19) := by omega
  have b : ¬ (20 ≤ k ∧ k ≤ 22) := by omega
  simp [leastK, mostK, a, b]
theorem c_of (h : k < 18 ∨ 22 < k) (h1 : Tail k kids (nodeF (.mk k t n nm kids))) : CutR k t n nm kids (.int .i64 0) (.int .i64 0) := by
  obtain ⟨a, b⟩ := plain_zero h; unfold CutR; rw [a, b]; exact ⟨rfl, rfl, h1⟩
theorem c_text (h : isTextK k) (h1 : (t.size : Int) ≤ 65536) (h2 : t.toList.isEmpty = false) : CutR k t n nm kids (.int .i64 0) (.int .i64 0) := by
  refine c_of (by unfold isTextK at h; omega) ?_; unfold Tail; rw [node_text h, if_neg (by omega), if_neg (by have := isEmpty_size'.1 h2; omega)]
theorem r_num (h : isNumK k) (h1 : n < 0 ∨ 65536 < n) : nodeF (.mk k t n nm kids) = 3 := by rw [node_num h, if_pos h1]
theorem c_num (h : isNumK k) (h1 : 0 ≤ n ∧ n ≤ 65536) : CutR k t n nm kids (.int .i64 0) (.int .i64 0) := by
  refine c_of (by unfold isNumK at h; omega) ?_; unfold Tail; rw [node_num h, if_neg (by omega)]
theorem r_name (h : isNameK k) (h1 : namedF nm = false) : nodeF (.mk k t n nm kids) = 7 := by rw [node_name h, if_pos h1]
theorem c_name2 (h : (k == 23) = true ∨ (k == 24) = true) (h1 : namedF nm = true) : CutR k t n nm kids (.int .i64 0) (.int .i64 0) := by
  simp only [beq_iff_eq] at h
  refine c_of (by omega) ?_; unfold Tail; rw [node_name (by unfold isNameK; omega), if_neg (by simp [h1])]
theorem c_name1 (h : (k == 21) = true ∨ (k == 22) = true) (h1 : namedF nm = true) : CutR k t n nm kids (.int .i64 1) (.int .i64 1) := by
  simp only [beq_iff_eq] at h
  have a : leastK k = 1 := by unfold leastK; rw [if_neg (by omega), if_pos (by omega)]
  have b : mostK k = 1 := by unfold mostK; rw [if_neg (by omega), if_pos (by omega)]
  unfold CutR; rw [a, b]; refine ⟨rfl, rfl, ?_⟩; unfold Tail; rw [node_name (by unfold isNameK; omega), if_neg (by simp [h1])]
theorem c_cat (h : (k == 18) = true ∨ (k == 19) = true) : CutR k t n nm kids (.int .i64 2) (.int .i64 4096) := by
  simp only [beq_iff_eq] at h
  have a : leastK k = 2 := by unfold leastK; rw [if_pos (by omega)]
  have b : mostK k = 4096 := by unfold mostK; rw [if_pos (by omega)]
  unfold CutR; rw [a, b]; exact ⟨rfl, rfl, node_other (by omega)⟩
theorem c_arbno (h : (k == 20) = true) : CutR k t n nm kids (.int .i64 1) (.int .i64 1) := by
  simp only [beq_iff_eq] at h; subst h; exact ⟨rfl, rfl, node_other (by omega)⟩
theorem c_other (h : 12 ≤ k ∧ k ≤ 17) : CutR k t n nm kids (.int .i64 0) (.int .i64 0) := c_of (by omega) (node_other (by omega))
theorem fin5 {l m : Value} (h : CutR k t n nm kids l m) : ∃ a b : Nat, l = .int .i64 a ∧ m = .int .i64 b ∧ nodeF (.mk k t n nm kids) = if (kids.length : Int) < a ∨ (b : Int) < kids.length then 5 else 0 := by
  obtain ⟨rfl, rfl, h⟩ := h
  refine ⟨_, _, rfl, rfl, ?_⟩
  unfold Tail at h; rw [h]
  by_cases hc : kids.length < leastK k ∨ mostK k < kids.length
  · rw [if_pos hc, if_pos (by omega)]
  · rw [if_neg hc, if_neg (by omega)]
end

set_option maxRecDepth 100000 in
set_option maxHeartbeats 4000000 in
theorem wrong_any (p : PatT) (b o : Nat) (S : Nat → Prop) (w : World) (hp : PatAt w S b o p) :
    Calls Try.prog 31 #[.pointer (some ⟨b, o, none⟩)] w fun e w' => e = .returned (.int .i64 (nodeF p)) ∧ w = w' := by
  obtain ⟨k, t, n, nm, kids⟩ := p
  unfold PatAt at hp
  obtain ⟨_, ⟨ht, hn0, hk⟩, h0, h1, h2, h3, ka, cap, h4, hks⟩ := hp
  clear hks
  have hn : nm.size ≤ maxLen := by unfold maxLen; omega
  by_cases hk0 : k < 1
  · go_enter Try.func31, Try.ntmps31
    go_wp2_with fail
    go_ret
    exact ⟨by simp [nodeF, hk0], rfl⟩
  by_cases hk1 : 24 < k
  · go_enter Try.func31, Try.ntmps31
    go_wp2_with fail
    go_ret
    exact ⟨by simp [nodeF, hk1], rfl⟩
  go_enter Try.func31, Try.ntmps31
  go_upto_block 0 with fail
  go_cut [3, 4] (fun l m w' => w = w' ∧ CutR k t n nm kids l m)
  case first =>
    go_wp2_with (go_at_call 32; refine (named_any _ _ hn).mono ?_; rintro e w' ⟨rfl, rfl⟩)
    all_goals
      first
        | (go_meet; go_light; refine ⟨rfl, ?_⟩; first
            | exact c_lit ‹_› ‹_›
            | exact c_text (text_of (by first | exact .inl ‹_› | exact .inr (.inl ‹_›) | exact .inr (.inr (.inl ‹_›)) | exact .inr (.inr (.inr (.inl ‹_›))) | exact .inr (.inr (.inr (.inr ‹_›))))) ‹_› ‹_›
            | exact c_num (num_of (by first | exact .inl ‹_› | exact .inr (.inl ‹_›) | exact .inr (.inr (.inl ‹_›)) | exact .inr (.inr (.inr (.inl ‹_›))) | exact .inr (.inr (.inr (.inr ‹_›))))) (by omega)
            | exact c_name1 (by first | exact .inl ‹_› | exact .inr ‹_›) (by first | assumption | exact bnot_f ‹_›)
            | exact c_name2 (by first | exact .inl ‹_› | exact .inr ‹_›) (by first | assumption | exact bnot_f ‹_›)
            | exact c_cat (by first | exact .inl ‹_› | exact .inr ‹_›)
            | exact c_arbno ‹_›
            | exact c_other (by simp only [beq_eq_false_iff_ne] at *; omega))
        | (go_ret; go_light; refine ⟨ret_int (Eq.symm ?_), rfl⟩; first
            | exact r_lit ‹_› ‹_›
            | exact r_text4 (text_of (by first | exact .inl ‹_› | exact .inr (.inl ‹_›) | exact .inr (.inr (.inl ‹_›)) | exact .inr (.inr (.inr (.inl ‹_›))) | exact .inr (.inr (.inr (.inr ‹_›))))) ‹_›
            | exact r_text8 (text_of (by first | exact .inl ‹_› | exact .inr (.inl ‹_›) | exact .inr (.inr (.inl ‹_›)) | exact .inr (.inr (.inr (.inl ‹_›))) | exact .inr (.inr (.inr (.inr ‹_›))))) ‹_› ‹_›
            | exact r_num (num_of (by first | exact .inl ‹_› | exact .inr (.inl ‹_›) | exact .inr (.inr (.inl ‹_›)) | exact .inr (.inr (.inr (.inl ‹_›))) | exact .inr (.inr (.inr (.inr ‹_›))))) (by omega)
            | exact r_name (name_of (by first | exact .inl ‹_› | exact .inr (.inl ‹_›) | exact .inr (.inr (.inl ‹_›)) | exact .inr (.inr (.inr ‹_›)))) (by first | assumption | exact bnot_t ‹_›))
  case rest =>
    obtain ⟨rfl, hc⟩ := hcut
    obtain ⟨a, b, rfl, rfl, he⟩ := fin5 hc
    have He := Lib.hid he; clear he hc
    go_wp2_with fail
    all_goals
      go_ret
      refine ⟨ret_int (Eq.symm ?_), rfl⟩
      rw [He.out]
      first | rw [if_pos (by omega)] | rw [if_neg (by omega)]
end Go.Proofs.Ytdkpdomggbiolaa
