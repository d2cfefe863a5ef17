/- The reference of chapter 4: Node. -/
import Derived.Test.YtcfcdobgpldoiaaGreatDoorRef4a
namespace Go.Proofs.YtcfcdobgpldoiaaGreatDoor
set_option linter.all false
open Go.RowKit

theorem names_list (k : Int) : ([21, 22, 23, 24] : List Int).contains k = decide (isNameK k) := by
  rw [Bool.eq_iff_iff, decide_eq_true_eq]; unfold isNameK; simp; omega
theorem cats_list (k : Int) : ([18, 19] : List Int).contains k = decide (k = 18 ∨ k = 19) := by
  rw [Bool.eq_iff_iff, decide_eq_true_eq]; simp
theorem ones_list (k : Int) : ([20, 21, 22] : List Int).contains k = decide (20 ≤ k ∧ k ≤ 22) := by
  rw [Bool.eq_iff_iff, decide_eq_true_eq]; simp; omega
theorem kids_list (k : Int) : ([18, 19, 20, 21, 22] : List Int).contains k = decide (18 ≤ k ∧ k ≤ 22) := by
  rw [Bool.eq_iff_iff, decide_eq_true_eq]; simp; omega
theorem In_names (k : Int) (b : Nat) (w : World) (hb : b = w.heap.size) :
    Calls Tryz.prog 54 #[.int .i64 k, .slice (some ⟨b, 0, none⟩) 4 4] (w.alloc (.cells #[.int .i64 21, .int .i64 22, .int .i64 23, .int .i64 24] 3)) (BoolQ (decide (isNameK k)) w) := by
  subst hb
  refine (In_any k [21, 22, 23, 24] _ (names_list k) w.heap.size 4 3 (0, 0) _ (heap_alloc_new w _) (by decide)).mono ?_
  rintro e w' ⟨rfl, rfl⟩
  exact ⟨rfl, (Kept.refl _ _).alloc _⟩
theorem In_cats (k : Int) (b : Nat) (w : World) (hb : b = w.heap.size) :
    Calls Tryz.prog 54 #[.int .i64 k, .slice (some ⟨b, 0, none⟩) 2 2] (w.alloc (.cells #[.int .i64 18, .int .i64 19] 3)) (BoolQ (decide (k = 18 ∨ k = 19)) w) := by
  subst hb
  refine (In_any k [18, 19] _ (cats_list k) w.heap.size 2 3 (0, 0) _ (heap_alloc_new w _) (by decide)).mono ?_
  rintro e w' ⟨rfl, rfl⟩
  exact ⟨rfl, (Kept.refl _ _).alloc _⟩
theorem In_ones (k : Int) (b : Nat) (w : World) (hb : b = w.heap.size) :
    Calls Tryz.prog 54 #[.int .i64 k, .slice (some ⟨b, 0, none⟩) 3 3] (w.alloc (.cells #[.int .i64 20, .int .i64 21, .int .i64 22] 3)) (BoolQ (decide (20 ≤ k ∧ k ≤ 22)) w) := by
  subst hb
  refine (In_any k [20, 21, 22] _ (ones_list k) w.heap.size 3 3 (0, 0) _ (heap_alloc_new w _) (by decide)).mono ?_
  rintro e w' ⟨rfl, rfl⟩
  exact ⟨rfl, (Kept.refl _ _).alloc _⟩
theorem In_kids (k : Int) (b : Nat) (w : World) (hb : b = w.heap.size) :
    Calls Tryz.prog 54 #[.int .i64 k, .slice (some ⟨b, 0, none⟩) 5 5] (w.alloc (.cells #[.int .i64 18, .int .i64 19, .int .i64 20, .int .i64 21, .int .i64 22] 3)) (BoolQ (decide (18 ≤ k ∧ k ≤ 22)) w) := by
  subst hb
  refine (In_any k [18, 19, 20, 21, 22] _ (kids_list k) w.heap.size 5 3 (0, 0) _ (heap_alloc_new w _) (by decide)).mono ?_
  rintro e w' ⟨rfl, rfl⟩
  exact ⟨rfl, (Kept.refl _ _).alloc _⟩
theorem bne_t {a b : Int} (h : (a != b) = true) : a ≠ b := by simpa using h
theorem bne_f {a b : Int} (h : (a != b) = false) : a = b := by simpa using h
theorem beq_t {a b : Int} (h : (a == b) = true) : a = b := by simpa using h
theorem beq_f {a b : Int} (h : (a == b) = false) : a ≠ b := by simpa using h
def IntQ (b : Int) (w : World) (e : Ending) (w' : World) : Prop := e = .returned (.int .i64 b) ∧ Kept Nix w w'

/-- A box of five cells lies at block N. -/
structure Box5 (N : Nat) (c0 c1 c2 c3 c4 : Value) (w : World) : Prop where
  lt : N < w.heap.size
  h0 : w.cell? ⟨N, 0, none⟩ = some c0
  h1 : w.cell? ⟨N, 1, none⟩ = some c1
  h2 : w.cell? ⟨N, 2, none⟩ = some c2
  h3 : w.cell? ⟨N, 3, none⟩ = some c3
  h4 : w.cell? ⟨N, 4, none⟩ = some c4
theorem Box5.new (w : World) (c0 c1 c2 c3 c4 : Value) (t : TypeId) : Box5 w.heap.size c0 c1 c2 c3 c4 (w.alloc (.cells #[c0, c1, c2, c3, c4] t)) := ⟨by simp, by simp, by simp, by simp, by simp, by simp⟩
theorem Box5.kept {N : Nat} {c0 c1 c2 c3 c4 : Value} {w w' : World} {X : Nat → Prop} (h : Box5 N c0 c1 c2 c3 c4 w) (hk : Kept X w w') (hx : ¬ X N) : Box5 N c0 c1 c2 c3 c4 w' :=
  ⟨Nat.lt_of_lt_of_le h.lt hk.size, (hk.cell h.lt hx).trans h.h0, (hk.cell h.lt hx).trans h.h1, (hk.cell h.lt hx).trans h.h2, (hk.cell h.lt hx).trans h.h3, (hk.cell h.lt hx).trans h.h4⟩

set_option maxRecDepth 100000 in
set_option maxHeartbeats 2000000 in
theorem refNode_lit (k n : Int) (t nm : ByteArray) (kids : List PatT) (ka : Option Addr) (cap : Nat) (w : World) (hg : k = 1) (ht : t.size < 1000000000) (hn : nm.size < 1000000000) (hl : kids.length ≤ 4096) :
    Calls Tryz.prog 40 #[.agg #[.int .i64 k, .string t, .int .i64 n, .string nm, .slice ka kids.length cap]] w (IntQ (nodeF (.mk k t n nm kids)) w) := by
  have btx : decide (isTextK k) = false := decide_eq_false (by simp only [isTextK, isNumK, isNameK] at *; omega)
  have bnu : decide (isNumK k) = false := decide_eq_false (by simp only [isTextK, isNumK, isNameK] at *; omega)
  have bna : decide (isNameK k) = false := decide_eq_false (by simp only [isTextK, isNumK, isNameK] at *; omega)
  have bca : decide (k = 18 ∨ k = 19) = false := decide_eq_false (by simp only [isTextK, isNumK, isNameK] at *; omega)
  have bon : decide (20 ≤ k ∧ k ≤ 22) = false := decide_eq_false (by simp only [isTextK, isNumK, isNameK] at *; omega)
  have bki : decide (18 ≤ k ∧ k ≤ 22) = false := decide_eq_false (by simp only [isTextK, isNumK, isNameK] at *; omega)
  have hr : 1 ≤ k ∧ k ≤ 24 := by first | omega | (simp only [isTextK, isNumK] at hg; omega)
  obtain ⟨hr1, hr2⟩ := hr
  have b1 : ((k : Int) == 1) = true := by simpa using hg
  have hle : leastK k = 0 ∧ mostK k = 0 := plain_zero (by first | omega | (simp only [isTextK, isNumK] at hg; omega))
  have hm : nm.size ≤ maxLen := by unfold maxLen; omega
  have hspec : nodeF (.mk k t n nm kids) = nodeF (.mk k t n nm kids) := rfl
  have B0 := Box5.new w (.int .i64 k) (.string t) (.int .i64 n) (.string nm) (.slice ka kids.length cap) 30
  have K0 : Hid (Kept Nix w (w.alloc (.cells #[.int .i64 k, .string t, .int .i64 n, .string nm, .slice ka kids.length cap] 30))) := (Kept.refl _ _).alloc _
  have HB := Lib.hid B0; have HK := K0; have HG := Lib.hid hg; have HL := Lib.hid hle; clear B0 hg hle hspec K0
  go_enter Tryz.func40, Tryz.ntmps40
  go_wp2_with (first
    | (go_at_call 52; (with_reducible refine (texts_any k _).mono ?_); rintro e w1 ⟨rfl, k1⟩; replace HB := Lib.hid (HB.out.kept k1 (fun h => h)); replace HK := Lib.hid (HK.out.trans k1); have z1 := HB.out.lt; have q0 := HB.out.h0; have q1 := HB.out.h1; have q2 := HB.out.h2; have q3 := HB.out.h3; have q4 := HB.out.h4; clear k1)
    | (go_at_call 53; (with_reducible refine (numbers_any k _).mono ?_); rintro e w1 ⟨rfl, k1⟩; replace HB := Lib.hid (HB.out.kept k1 (fun h => h)); replace HK := Lib.hid (HK.out.trans k1); have z1 := HB.out.lt; have q0 := HB.out.h0; have q1 := HB.out.h1; have q2 := HB.out.h2; have q3 := HB.out.h3; have q4 := HB.out.h4; clear k1)
    | (go_at_call 54; (with_reducible refine (In_names k _ _ (by simp)).mono ?_); rintro e w1 ⟨rfl, k1⟩; replace HB := Lib.hid (HB.out.kept k1 (fun h => h)); replace HK := Lib.hid (HK.out.trans k1); have z1 := HB.out.lt; have q0 := HB.out.h0; have q1 := HB.out.h1; have q2 := HB.out.h2; have q3 := HB.out.h3; have q4 := HB.out.h4; clear k1)
    | (go_at_call 20; (with_reducible refine (refNamed_any nm _ hm).mono ?_); rintro e w1 ⟨rfl, k1⟩; replace HB := Lib.hid (HB.out.kept k1 (fun h => h)); replace HK := Lib.hid (HK.out.trans k1); have z1 := HB.out.lt; have q0 := HB.out.h0; have q1 := HB.out.h1; have q2 := HB.out.h2; have q3 := HB.out.h3; have q4 := HB.out.h4; clear k1)
    | (go_at_call 54; (with_reducible refine (In_cats k _ _ (by simp)).mono ?_); rintro e w1 ⟨rfl, k1⟩; replace HB := Lib.hid (HB.out.kept k1 (fun h => h)); replace HK := Lib.hid (HK.out.trans k1); have z1 := HB.out.lt; have q0 := HB.out.h0; have q1 := HB.out.h1; have q2 := HB.out.h2; have q3 := HB.out.h3; have q4 := HB.out.h4; clear k1)
    | (go_at_call 54; (with_reducible refine (In_ones k _ _ (by simp)).mono ?_); rintro e w1 ⟨rfl, k1⟩; replace HB := Lib.hid (HB.out.kept k1 (fun h => h)); replace HK := Lib.hid (HK.out.trans k1); have z1 := HB.out.lt; have q0 := HB.out.h0; have q1 := HB.out.h1; have q2 := HB.out.h2; have q3 := HB.out.h3; have q4 := HB.out.h4; clear k1)
    | (go_at_call 54; (with_reducible refine (In_kids k _ _ (by simp)).mono ?_); rintro e w1 ⟨rfl, k1⟩; replace HB := Lib.hid (HB.out.kept k1 (fun h => h)); replace HK := Lib.hid (HK.out.trans k1); have z1 := HB.out.lt; have q0 := HB.out.h0; have q1 := HB.out.h1; have q2 := HB.out.h2; have q3 := HB.out.h3; have q4 := HB.out.h4; clear k1))
  all_goals
    go_ret
    refine ⟨ret_int (Eq.symm ?_), by repeat (first | exact HK.out | refine Kept.alloc ?_ _)⟩
    try have hx0 := bne_t ‹((kids.length : Int) != 0) = true›
    try have hx0 := bne_f ‹((kids.length : Int) != 0) = false›
    try have hx1 := bne_t ‹((kids.length : Int) != 1) = true›
    try have hx1 := bne_f ‹((kids.length : Int) != 1) = false›
    try have hx2 := beq_t ‹((t.size : Int) == 0) = true›
    try have hx2 := beq_f ‹((t.size : Int) == 0) = false›
    have hg := HG.out
    have hle := HL.out; subst hg; rw [node_lit]
    rw [hle.1, hle.2]
    repeat (first | rfl | rw [if_pos (by first | omega | assumption)] | rw [if_neg (by first | omega | (intro hx; rw [hx] at hnb; cases hnb))])

set_option maxRecDepth 100000 in
set_option maxHeartbeats 2000000 in
theorem refNode_text (k n : Int) (t nm : ByteArray) (kids : List PatT) (ka : Option Addr) (cap : Nat) (w : World) (hg : isTextK k) (ht : t.size < 1000000000) (hn : nm.size < 1000000000) (hl : kids.length ≤ 4096) :
    Calls Tryz.prog 40 #[.agg #[.int .i64 k, .string t, .int .i64 n, .string nm, .slice ka kids.length cap]] w (IntQ (nodeF (.mk k t n nm kids)) w) := by
  have btx : decide (isTextK k) = true := decide_eq_true (by first | assumption | (simp only [isTextK, isNumK, isNameK] at *; omega))
  have bnu : decide (isNumK k) = false := decide_eq_false (by simp only [isTextK, isNumK, isNameK] at *; omega)
  have bna : decide (isNameK k) = false := decide_eq_false (by simp only [isTextK, isNumK, isNameK] at *; omega)
  have bca : decide (k = 18 ∨ k = 19) = false := decide_eq_false (by simp only [isTextK, isNumK, isNameK] at *; omega)
  have bon : decide (20 ≤ k ∧ k ≤ 22) = false := decide_eq_false (by simp only [isTextK, isNumK, isNameK] at *; omega)
  have bki : decide (18 ≤ k ∧ k ≤ 22) = false := decide_eq_false (by simp only [isTextK, isNumK, isNameK] at *; omega)
  have hr : 1 ≤ k ∧ k ≤ 24 := by first | omega | (simp only [isTextK, isNumK] at hg; omega)
  obtain ⟨hr1, hr2⟩ := hr
  have hle : leastK k = 0 ∧ mostK k = 0 := plain_zero (by first | omega | (simp only [isTextK, isNumK] at hg; omega))
  have hm : nm.size ≤ maxLen := by unfold maxLen; omega
  have hspec : nodeF (.mk k t n nm kids) = nodeF (.mk k t n nm kids) := rfl
  have B0 := Box5.new w (.int .i64 k) (.string t) (.int .i64 n) (.string nm) (.slice ka kids.length cap) 30
  have K0 : Hid (Kept Nix w (w.alloc (.cells #[.int .i64 k, .string t, .int .i64 n, .string nm, .slice ka kids.length cap] 30))) := (Kept.refl _ _).alloc _
  have HB := Lib.hid B0; have HK := K0; have HG := Lib.hid hg; have HL := Lib.hid hle; clear B0 hg hle hspec K0
  go_enter Tryz.func40, Tryz.ntmps40
  go_wp2_with (first
    | (go_at_call 52; (with_reducible refine (texts_any k _).mono ?_); rintro e w1 ⟨rfl, k1⟩; replace HB := Lib.hid (HB.out.kept k1 (fun h => h)); replace HK := Lib.hid (HK.out.trans k1); have z1 := HB.out.lt; have q0 := HB.out.h0; have q1 := HB.out.h1; have q2 := HB.out.h2; have q3 := HB.out.h3; have q4 := HB.out.h4; clear k1)
    | (go_at_call 53; (with_reducible refine (numbers_any k _).mono ?_); rintro e w1 ⟨rfl, k1⟩; replace HB := Lib.hid (HB.out.kept k1 (fun h => h)); replace HK := Lib.hid (HK.out.trans k1); have z1 := HB.out.lt; have q0 := HB.out.h0; have q1 := HB.out.h1; have q2 := HB.out.h2; have q3 := HB.out.h3; have q4 := HB.out.h4; clear k1)
    | (go_at_call 54; (with_reducible refine (In_names k _ _ (by simp)).mono ?_); rintro e w1 ⟨rfl, k1⟩; replace HB := Lib.hid (HB.out.kept k1 (fun h => h)); replace HK := Lib.hid (HK.out.trans k1); have z1 := HB.out.lt; have q0 := HB.out.h0; have q1 := HB.out.h1; have q2 := HB.out.h2; have q3 := HB.out.h3; have q4 := HB.out.h4; clear k1)
    | (go_at_call 20; (with_reducible refine (refNamed_any nm _ hm).mono ?_); rintro e w1 ⟨rfl, k1⟩; replace HB := Lib.hid (HB.out.kept k1 (fun h => h)); replace HK := Lib.hid (HK.out.trans k1); have z1 := HB.out.lt; have q0 := HB.out.h0; have q1 := HB.out.h1; have q2 := HB.out.h2; have q3 := HB.out.h3; have q4 := HB.out.h4; clear k1)
    | (go_at_call 54; (with_reducible refine (In_cats k _ _ (by simp)).mono ?_); rintro e w1 ⟨rfl, k1⟩; replace HB := Lib.hid (HB.out.kept k1 (fun h => h)); replace HK := Lib.hid (HK.out.trans k1); have z1 := HB.out.lt; have q0 := HB.out.h0; have q1 := HB.out.h1; have q2 := HB.out.h2; have q3 := HB.out.h3; have q4 := HB.out.h4; clear k1)
    | (go_at_call 54; (with_reducible refine (In_ones k _ _ (by simp)).mono ?_); rintro e w1 ⟨rfl, k1⟩; replace HB := Lib.hid (HB.out.kept k1 (fun h => h)); replace HK := Lib.hid (HK.out.trans k1); have z1 := HB.out.lt; have q0 := HB.out.h0; have q1 := HB.out.h1; have q2 := HB.out.h2; have q3 := HB.out.h3; have q4 := HB.out.h4; clear k1)
    | (go_at_call 54; (with_reducible refine (In_kids k _ _ (by simp)).mono ?_); rintro e w1 ⟨rfl, k1⟩; replace HB := Lib.hid (HB.out.kept k1 (fun h => h)); replace HK := Lib.hid (HK.out.trans k1); have z1 := HB.out.lt; have q0 := HB.out.h0; have q1 := HB.out.h1; have q2 := HB.out.h2; have q3 := HB.out.h3; have q4 := HB.out.h4; clear k1))
  all_goals
    go_ret
    refine ⟨ret_int (Eq.symm ?_), by repeat (first | exact HK.out | refine Kept.alloc ?_ _)⟩
    try have hx0 := bne_t ‹((kids.length : Int) != 0) = true›
    try have hx0 := bne_f ‹((kids.length : Int) != 0) = false›
    try have hx1 := bne_t ‹((kids.length : Int) != 1) = true›
    try have hx1 := bne_f ‹((kids.length : Int) != 1) = false›
    try have hx2 := beq_t ‹((t.size : Int) == 0) = true›
    try have hx2 := beq_f ‹((t.size : Int) == 0) = false›
    have hg := HG.out
    have hle := HL.out; rw [node_text hg]
    rw [hle.1, hle.2]
    repeat (first | rfl | rw [if_pos (by first | omega | assumption)] | rw [if_neg (by first | omega | (intro hx; rw [hx] at hnb; cases hnb))])

set_option maxRecDepth 100000 in
set_option maxHeartbeats 2000000 in
theorem refNode_num (k n : Int) (t nm : ByteArray) (kids : List PatT) (ka : Option Addr) (cap : Nat) (w : World) (hg : isNumK k) (ht : t.size < 1000000000) (hn : nm.size < 1000000000) (hl : kids.length ≤ 4096) :
    Calls Tryz.prog 40 #[.agg #[.int .i64 k, .string t, .int .i64 n, .string nm, .slice ka kids.length cap]] w (IntQ (nodeF (.mk k t n nm kids)) w) := by
  have btx : decide (isTextK k) = false := decide_eq_false (by simp only [isTextK, isNumK, isNameK] at *; omega)
  have bnu : decide (isNumK k) = true := decide_eq_true (by first | assumption | (simp only [isTextK, isNumK, isNameK] at *; omega))
  have bna : decide (isNameK k) = false := decide_eq_false (by simp only [isTextK, isNumK, isNameK] at *; omega)
  have bca : decide (k = 18 ∨ k = 19) = false := decide_eq_false (by simp only [isTextK, isNumK, isNameK] at *; omega)
  have bon : decide (20 ≤ k ∧ k ≤ 22) = false := decide_eq_false (by simp only [isTextK, isNumK, isNameK] at *; omega)
  have bki : decide (18 ≤ k ∧ k ≤ 22) = false := decide_eq_false (by simp only [isTextK, isNumK, isNameK] at *; omega)
  have hr : 1 ≤ k ∧ k ≤ 24 := by first | omega | (simp only [isTextK, isNumK] at hg; omega)
  obtain ⟨hr1, hr2⟩ := hr
  have b1 : ((k : Int) == 1) = false := by first | (simp; omega) | (simp only [isNumK] at hg; simp; omega)
  have hle : leastK k = 0 ∧ mostK k = 0 := plain_zero (by first | omega | (simp only [isTextK, isNumK] at hg; omega))
  have hm : nm.size ≤ maxLen := by unfold maxLen; omega
  have hspec : nodeF (.mk k t n nm kids) = nodeF (.mk k t n nm kids) := rfl
  have B0 := Box5.new w (.int .i64 k) (.string t) (.int .i64 n) (.string nm) (.slice ka kids.length cap) 30
  have K0 : Hid (Kept Nix w (w.alloc (.cells #[.int .i64 k, .string t, .int .i64 n, .string nm, .slice ka kids.length cap] 30))) := (Kept.refl _ _).alloc _
  have HB := Lib.hid B0; have HK := K0; have HG := Lib.hid hg; have HL := Lib.hid hle; clear B0 hg hle hspec K0
  go_enter Tryz.func40, Tryz.ntmps40
  go_wp2_with (first
    | (go_at_call 52; (with_reducible refine (texts_any k _).mono ?_); rintro e w1 ⟨rfl, k1⟩; replace HB := Lib.hid (HB.out.kept k1 (fun h => h)); replace HK := Lib.hid (HK.out.trans k1); have z1 := HB.out.lt; have q0 := HB.out.h0; have q1 := HB.out.h1; have q2 := HB.out.h2; have q3 := HB.out.h3; have q4 := HB.out.h4; clear k1)
    | (go_at_call 53; (with_reducible refine (numbers_any k _).mono ?_); rintro e w1 ⟨rfl, k1⟩; replace HB := Lib.hid (HB.out.kept k1 (fun h => h)); replace HK := Lib.hid (HK.out.trans k1); have z1 := HB.out.lt; have q0 := HB.out.h0; have q1 := HB.out.h1; have q2 := HB.out.h2; have q3 := HB.out.h3; have q4 := HB.out.h4; clear k1)
    | (go_at_call 54; (with_reducible refine (In_names k _ _ (by simp)).mono ?_); rintro e w1 ⟨rfl, k1⟩; replace HB := Lib.hid (HB.out.kept k1 (fun h => h)); replace HK := Lib.hid (HK.out.trans k1); have z1 := HB.out.lt; have q0 := HB.out.h0; have q1 := HB.out.h1; have q2 := HB.out.h2; have q3 := HB.out.h3; have q4 := HB.out.h4; clear k1)
    | (go_at_call 20; (with_reducible refine (refNamed_any nm _ hm).mono ?_); rintro e w1 ⟨rfl, k1⟩; replace HB := Lib.hid (HB.out.kept k1 (fun h => h)); replace HK := Lib.hid (HK.out.trans k1); have z1 := HB.out.lt; have q0 := HB.out.h0; have q1 := HB.out.h1; have q2 := HB.out.h2; have q3 := HB.out.h3; have q4 := HB.out.h4; clear k1)
    | (go_at_call 54; (with_reducible refine (In_cats k _ _ (by simp)).mono ?_); rintro e w1 ⟨rfl, k1⟩; replace HB := Lib.hid (HB.out.kept k1 (fun h => h)); replace HK := Lib.hid (HK.out.trans k1); have z1 := HB.out.lt; have q0 := HB.out.h0; have q1 := HB.out.h1; have q2 := HB.out.h2; have q3 := HB.out.h3; have q4 := HB.out.h4; clear k1)
    | (go_at_call 54; (with_reducible refine (In_ones k _ _ (by simp)).mono ?_); rintro e w1 ⟨rfl, k1⟩; replace HB := Lib.hid (HB.out.kept k1 (fun h => h)); replace HK := Lib.hid (HK.out.trans k1); have z1 := HB.out.lt; have q0 := HB.out.h0; have q1 := HB.out.h1; have q2 := HB.out.h2; have q3 := HB.out.h3; have q4 := HB.out.h4; clear k1)
    | (go_at_call 54; (with_reducible refine (In_kids k _ _ (by simp)).mono ?_); rintro e w1 ⟨rfl, k1⟩; replace HB := Lib.hid (HB.out.kept k1 (fun h => h)); replace HK := Lib.hid (HK.out.trans k1); have z1 := HB.out.lt; have q0 := HB.out.h0; have q1 := HB.out.h1; have q2 := HB.out.h2; have q3 := HB.out.h3; have q4 := HB.out.h4; clear k1))
  all_goals
    go_ret
    refine ⟨ret_int (Eq.symm ?_), by repeat (first | exact HK.out | refine Kept.alloc ?_ _)⟩
    try have hx0 := bne_t ‹((kids.length : Int) != 0) = true›
    try have hx0 := bne_f ‹((kids.length : Int) != 0) = false›
    try have hx1 := bne_t ‹((kids.length : Int) != 1) = true›
    try have hx1 := bne_f ‹((kids.length : Int) != 1) = false›
    try have hx2 := beq_t ‹((t.size : Int) == 0) = true›
    try have hx2 := beq_f ‹((t.size : Int) == 0) = false›
    have hg := HG.out
    have hle := HL.out; rw [node_num hg]
    rw [hle.1, hle.2]
    repeat (first | rfl | rw [if_pos (by first | omega | assumption)] | rw [if_neg (by first | omega | (intro hx; rw [hx] at hnb; cases hnb))])

set_option maxRecDepth 100000 in
set_option maxHeartbeats 2000000 in
theorem refNode_plain (k n : Int) (t nm : ByteArray) (kids : List PatT) (ka : Option Addr) (cap : Nat) (w : World) (hg : 12 ≤ k ∧ k ≤ 17) (ht : t.size < 1000000000) (hn : nm.size < 1000000000) (hl : kids.length ≤ 4096) :
    Calls Tryz.prog 40 #[.agg #[.int .i64 k, .string t, .int .i64 n, .string nm, .slice ka kids.length cap]] w (IntQ (nodeF (.mk k t n nm kids)) w) := by
  have btx : decide (isTextK k) = false := decide_eq_false (by simp only [isTextK, isNumK, isNameK] at *; omega)
  have bnu : decide (isNumK k) = false := decide_eq_false (by simp only [isTextK, isNumK, isNameK] at *; omega)
  have bna : decide (isNameK k) = false := decide_eq_false (by simp only [isTextK, isNumK, isNameK] at *; omega)
  have bca : decide (k = 18 ∨ k = 19) = false := decide_eq_false (by simp only [isTextK, isNumK, isNameK] at *; omega)
  have bon : decide (20 ≤ k ∧ k ≤ 22) = false := decide_eq_false (by simp only [isTextK, isNumK, isNameK] at *; omega)
  have bki : decide (18 ≤ k ∧ k ≤ 22) = false := decide_eq_false (by simp only [isTextK, isNumK, isNameK] at *; omega)
  have hr : 1 ≤ k ∧ k ≤ 24 := by first | omega | (simp only [isTextK, isNumK] at hg; omega)
  obtain ⟨hr1, hr2⟩ := hr
  have b1 : ((k : Int) == 1) = false := by first | (simp; omega) | (simp only [isNumK] at hg; simp; omega)
  have hle : leastK k = 0 ∧ mostK k = 0 := plain_zero (by first | omega | (simp only [isTextK, isNumK] at hg; omega))
  have hm : nm.size ≤ maxLen := by unfold maxLen; omega
  have hspec : nodeF (.mk k t n nm kids) = nodeF (.mk k t n nm kids) := rfl
  have B0 := Box5.new w (.int .i64 k) (.string t) (.int .i64 n) (.string nm) (.slice ka kids.length cap) 30
  have K0 : Hid (Kept Nix w (w.alloc (.cells #[.int .i64 k, .string t, .int .i64 n, .string nm, .slice ka kids.length cap] 30))) := (Kept.refl _ _).alloc _
  have HB := Lib.hid B0; have HK := K0; have HG := Lib.hid hg; have HL := Lib.hid hle; clear B0 hg hle hspec K0
  go_enter Tryz.func40, Tryz.ntmps40
  go_wp2_with (first
    | (go_at_call 52; (with_reducible refine (texts_any k _).mono ?_); rintro e w1 ⟨rfl, k1⟩; replace HB := Lib.hid (HB.out.kept k1 (fun h => h)); replace HK := Lib.hid (HK.out.trans k1); have z1 := HB.out.lt; have q0 := HB.out.h0; have q1 := HB.out.h1; have q2 := HB.out.h2; have q3 := HB.out.h3; have q4 := HB.out.h4; clear k1)
    | (go_at_call 53; (with_reducible refine (numbers_any k _).mono ?_); rintro e w1 ⟨rfl, k1⟩; replace HB := Lib.hid (HB.out.kept k1 (fun h => h)); replace HK := Lib.hid (HK.out.trans k1); have z1 := HB.out.lt; have q0 := HB.out.h0; have q1 := HB.out.h1; have q2 := HB.out.h2; have q3 := HB.out.h3; have q4 := HB.out.h4; clear k1)
    | (go_at_call 54; (with_reducible refine (In_names k _ _ (by simp)).mono ?_); rintro e w1 ⟨rfl, k1⟩; replace HB := Lib.hid (HB.out.kept k1 (fun h => h)); replace HK := Lib.hid (HK.out.trans k1); have z1 := HB.out.lt; have q0 := HB.out.h0; have q1 := HB.out.h1; have q2 := HB.out.h2; have q3 := HB.out.h3; have q4 := HB.out.h4; clear k1)
    | (go_at_call 20; (with_reducible refine (refNamed_any nm _ hm).mono ?_); rintro e w1 ⟨rfl, k1⟩; replace HB := Lib.hid (HB.out.kept k1 (fun h => h)); replace HK := Lib.hid (HK.out.trans k1); have z1 := HB.out.lt; have q0 := HB.out.h0; have q1 := HB.out.h1; have q2 := HB.out.h2; have q3 := HB.out.h3; have q4 := HB.out.h4; clear k1)
    | (go_at_call 54; (with_reducible refine (In_cats k _ _ (by simp)).mono ?_); rintro e w1 ⟨rfl, k1⟩; replace HB := Lib.hid (HB.out.kept k1 (fun h => h)); replace HK := Lib.hid (HK.out.trans k1); have z1 := HB.out.lt; have q0 := HB.out.h0; have q1 := HB.out.h1; have q2 := HB.out.h2; have q3 := HB.out.h3; have q4 := HB.out.h4; clear k1)
    | (go_at_call 54; (with_reducible refine (In_ones k _ _ (by simp)).mono ?_); rintro e w1 ⟨rfl, k1⟩; replace HB := Lib.hid (HB.out.kept k1 (fun h => h)); replace HK := Lib.hid (HK.out.trans k1); have z1 := HB.out.lt; have q0 := HB.out.h0; have q1 := HB.out.h1; have q2 := HB.out.h2; have q3 := HB.out.h3; have q4 := HB.out.h4; clear k1)
    | (go_at_call 54; (with_reducible refine (In_kids k _ _ (by simp)).mono ?_); rintro e w1 ⟨rfl, k1⟩; replace HB := Lib.hid (HB.out.kept k1 (fun h => h)); replace HK := Lib.hid (HK.out.trans k1); have z1 := HB.out.lt; have q0 := HB.out.h0; have q1 := HB.out.h1; have q2 := HB.out.h2; have q3 := HB.out.h3; have q4 := HB.out.h4; clear k1))
  all_goals
    go_ret
    refine ⟨ret_int (Eq.symm ?_), by repeat (first | exact HK.out | refine Kept.alloc ?_ _)⟩
    try have hx0 := bne_t ‹((kids.length : Int) != 0) = true›
    try have hx0 := bne_f ‹((kids.length : Int) != 0) = false›
    try have hx1 := bne_t ‹((kids.length : Int) != 1) = true›
    try have hx1 := bne_f ‹((kids.length : Int) != 1) = false›
    try have hx2 := beq_t ‹((t.size : Int) == 0) = true›
    try have hx2 := beq_f ‹((t.size : Int) == 0) = false›
    have hg := HG.out
    have hle := HL.out; rw [node_other (by omega)]
    rw [hle.1, hle.2]
    repeat (first | rfl | rw [if_pos (by first | omega | assumption)] | rw [if_neg (by first | omega | (intro hx; rw [hx] at hnb; cases hnb))])

set_option maxRecDepth 100000 in
set_option maxHeartbeats 2000000 in
theorem refNode_cat (k n : Int) (t nm : ByteArray) (kids : List PatT) (ka : Option Addr) (cap : Nat) (w : World) (hg : k = 18 ∨ k = 19) (ht : t.size < 1000000000) (hn : nm.size < 1000000000) (hl : kids.length ≤ 4096) :
    Calls Tryz.prog 40 #[.agg #[.int .i64 k, .string t, .int .i64 n, .string nm, .slice ka kids.length cap]] w (IntQ (nodeF (.mk k t n nm kids)) w) := by
  have btx : decide (isTextK k) = false := decide_eq_false (by simp only [isTextK, isNumK, isNameK] at *; omega)
  have bnu : decide (isNumK k) = false := decide_eq_false (by simp only [isTextK, isNumK, isNameK] at *; omega)
  have bna : decide (isNameK k) = false := decide_eq_false (by simp only [isTextK, isNumK, isNameK] at *; omega)
  have bca : decide (k = 18 ∨ k = 19) = true := decide_eq_true (by first | assumption | (simp only [isTextK, isNumK, isNameK] at *; omega))
  have bon : decide (20 ≤ k ∧ k ≤ 22) = false := decide_eq_false (by simp only [isTextK, isNumK, isNameK] at *; omega)
  have bki : decide (18 ≤ k ∧ k ≤ 22) = true := decide_eq_true (by first | assumption | (simp only [isTextK, isNumK, isNameK] at *; omega))
  have hr : 1 ≤ k ∧ k ≤ 24 := by first | omega | (simp only [isTextK, isNumK] at hg; omega)
  obtain ⟨hr1, hr2⟩ := hr
  have b1 : ((k : Int) == 1) = false := by first | (simp; omega) | (simp only [isNumK] at hg; simp; omega)
  have hle : leastK k = 2 ∧ mostK k = 4096 := by unfold leastK mostK; constructor <;> (repeat (first | rw [if_pos (by omega)] | rw [if_neg (by omega)]))
  have hm : nm.size ≤ maxLen := by unfold maxLen; omega
  have hspec : nodeF (.mk k t n nm kids) = nodeF (.mk k t n nm kids) := rfl
  have B0 := Box5.new w (.int .i64 k) (.string t) (.int .i64 n) (.string nm) (.slice ka kids.length cap) 30
  have K0 : Hid (Kept Nix w (w.alloc (.cells #[.int .i64 k, .string t, .int .i64 n, .string nm, .slice ka kids.length cap] 30))) := (Kept.refl _ _).alloc _
  have HB := Lib.hid B0; have HK := K0; have HG := Lib.hid hg; have HL := Lib.hid hle; clear B0 hg hle hspec K0
  go_enter Tryz.func40, Tryz.ntmps40
  go_wp2_with (first
    | (go_at_call 52; (with_reducible refine (texts_any k _).mono ?_); rintro e w1 ⟨rfl, k1⟩; replace HB := Lib.hid (HB.out.kept k1 (fun h => h)); replace HK := Lib.hid (HK.out.trans k1); have z1 := HB.out.lt; have q0 := HB.out.h0; have q1 := HB.out.h1; have q2 := HB.out.h2; have q3 := HB.out.h3; have q4 := HB.out.h4; clear k1)
    | (go_at_call 53; (with_reducible refine (numbers_any k _).mono ?_); rintro e w1 ⟨rfl, k1⟩; replace HB := Lib.hid (HB.out.kept k1 (fun h => h)); replace HK := Lib.hid (HK.out.trans k1); have z1 := HB.out.lt; have q0 := HB.out.h0; have q1 := HB.out.h1; have q2 := HB.out.h2; have q3 := HB.out.h3; have q4 := HB.out.h4; clear k1)
    | (go_at_call 54; (with_reducible refine (In_names k _ _ (by simp)).mono ?_); rintro e w1 ⟨rfl, k1⟩; replace HB := Lib.hid (HB.out.kept k1 (fun h => h)); replace HK := Lib.hid (HK.out.trans k1); have z1 := HB.out.lt; have q0 := HB.out.h0; have q1 := HB.out.h1; have q2 := HB.out.h2; have q3 := HB.out.h3; have q4 := HB.out.h4; clear k1)
    | (go_at_call 20; (with_reducible refine (refNamed_any nm _ hm).mono ?_); rintro e w1 ⟨rfl, k1⟩; replace HB := Lib.hid (HB.out.kept k1 (fun h => h)); replace HK := Lib.hid (HK.out.trans k1); have z1 := HB.out.lt; have q0 := HB.out.h0; have q1 := HB.out.h1; have q2 := HB.out.h2; have q3 := HB.out.h3; have q4 := HB.out.h4; clear k1)
    | (go_at_call 54; (with_reducible refine (In_cats k _ _ (by simp)).mono ?_); rintro e w1 ⟨rfl, k1⟩; replace HB := Lib.hid (HB.out.kept k1 (fun h => h)); replace HK := Lib.hid (HK.out.trans k1); have z1 := HB.out.lt; have q0 := HB.out.h0; have q1 := HB.out.h1; have q2 := HB.out.h2; have q3 := HB.out.h3; have q4 := HB.out.h4; clear k1)
    | (go_at_call 54; (with_reducible refine (In_ones k _ _ (by simp)).mono ?_); rintro e w1 ⟨rfl, k1⟩; replace HB := Lib.hid (HB.out.kept k1 (fun h => h)); replace HK := Lib.hid (HK.out.trans k1); have z1 := HB.out.lt; have q0 := HB.out.h0; have q1 := HB.out.h1; have q2 := HB.out.h2; have q3 := HB.out.h3; have q4 := HB.out.h4; clear k1)
    | (go_at_call 54; (with_reducible refine (In_kids k _ _ (by simp)).mono ?_); rintro e w1 ⟨rfl, k1⟩; replace HB := Lib.hid (HB.out.kept k1 (fun h => h)); replace HK := Lib.hid (HK.out.trans k1); have z1 := HB.out.lt; have q0 := HB.out.h0; have q1 := HB.out.h1; have q2 := HB.out.h2; have q3 := HB.out.h3; have q4 := HB.out.h4; clear k1))
  all_goals
    go_ret
    refine ⟨ret_int (Eq.symm ?_), by repeat (first | exact HK.out | refine Kept.alloc ?_ _)⟩
    try have hx0 := bne_t ‹((kids.length : Int) != 0) = true›
    try have hx0 := bne_f ‹((kids.length : Int) != 0) = false›
    try have hx1 := bne_t ‹((kids.length : Int) != 1) = true›
    try have hx1 := bne_f ‹((kids.length : Int) != 1) = false›
    try have hx2 := beq_t ‹((t.size : Int) == 0) = true›
    try have hx2 := beq_f ‹((t.size : Int) == 0) = false›
    have hg := HG.out
    have hle := HL.out; rw [node_other (by omega)]
    rw [hle.1, hle.2]
    repeat (first | rfl | rw [if_pos (by first | omega | assumption)] | rw [if_neg (by first | omega | (intro hx; rw [hx] at hnb; cases hnb))])

set_option maxRecDepth 100000 in
set_option maxHeartbeats 2000000 in
theorem refNode_arbno (k n : Int) (t nm : ByteArray) (kids : List PatT) (ka : Option Addr) (cap : Nat) (w : World) (hg : k = 20) (ht : t.size < 1000000000) (hn : nm.size < 1000000000) (hl : kids.length ≤ 4096) :
    Calls Tryz.prog 40 #[.agg #[.int .i64 k, .string t, .int .i64 n, .string nm, .slice ka kids.length cap]] w (IntQ (nodeF (.mk k t n nm kids)) w) := by
  have btx : decide (isTextK k) = false := decide_eq_false (by simp only [isTextK, isNumK, isNameK] at *; omega)
  have bnu : decide (isNumK k) = false := decide_eq_false (by simp only [isTextK, isNumK, isNameK] at *; omega)
  have bna : decide (isNameK k) = false := decide_eq_false (by simp only [isTextK, isNumK, isNameK] at *; omega)
  have bca : decide (k = 18 ∨ k = 19) = false := decide_eq_false (by simp only [isTextK, isNumK, isNameK] at *; omega)
  have bon : decide (20 ≤ k ∧ k ≤ 22) = true := decide_eq_true (by first | assumption | (simp only [isTextK, isNumK, isNameK] at *; omega))
  have bki : decide (18 ≤ k ∧ k ≤ 22) = true := decide_eq_true (by first | assumption | (simp only [isTextK, isNumK, isNameK] at *; omega))
  have hr : 1 ≤ k ∧ k ≤ 24 := by first | omega | (simp only [isTextK, isNumK] at hg; omega)
  obtain ⟨hr1, hr2⟩ := hr
  have b1 : ((k : Int) == 1) = false := by first | (simp; omega) | (simp only [isNumK] at hg; simp; omega)
  have hle : leastK k = 1 ∧ mostK k = 1 := by unfold leastK mostK; constructor <;> (repeat (first | rw [if_pos (by omega)] | rw [if_neg (by omega)]))
  have hm : nm.size ≤ maxLen := by unfold maxLen; omega
  have hspec : nodeF (.mk k t n nm kids) = nodeF (.mk k t n nm kids) := rfl
  have B0 := Box5.new w (.int .i64 k) (.string t) (.int .i64 n) (.string nm) (.slice ka kids.length cap) 30
  have K0 : Hid (Kept Nix w (w.alloc (.cells #[.int .i64 k, .string t, .int .i64 n, .string nm, .slice ka kids.length cap] 30))) := (Kept.refl _ _).alloc _
  have HB := Lib.hid B0; have HK := K0; have HG := Lib.hid hg; have HL := Lib.hid hle; clear B0 hg hle hspec K0
  go_enter Tryz.func40, Tryz.ntmps40
  go_wp2_with (first
    | (go_at_call 52; (with_reducible refine (texts_any k _).mono ?_); rintro e w1 ⟨rfl, k1⟩; replace HB := Lib.hid (HB.out.kept k1 (fun h => h)); replace HK := Lib.hid (HK.out.trans k1); have z1 := HB.out.lt; have q0 := HB.out.h0; have q1 := HB.out.h1; have q2 := HB.out.h2; have q3 := HB.out.h3; have q4 := HB.out.h4; clear k1)
    | (go_at_call 53; (with_reducible refine (numbers_any k _).mono ?_); rintro e w1 ⟨rfl, k1⟩; replace HB := Lib.hid (HB.out.kept k1 (fun h => h)); replace HK := Lib.hid (HK.out.trans k1); have z1 := HB.out.lt; have q0 := HB.out.h0; have q1 := HB.out.h1; have q2 := HB.out.h2; have q3 := HB.out.h3; have q4 := HB.out.h4; clear k1)
    | (go_at_call 54; (with_reducible refine (In_names k _ _ (by simp)).mono ?_); rintro e w1 ⟨rfl, k1⟩; replace HB := Lib.hid (HB.out.kept k1 (fun h => h)); replace HK := Lib.hid (HK.out.trans k1); have z1 := HB.out.lt; have q0 := HB.out.h0; have q1 := HB.out.h1; have q2 := HB.out.h2; have q3 := HB.out.h3; have q4 := HB.out.h4; clear k1)
    | (go_at_call 20; (with_reducible refine (refNamed_any nm _ hm).mono ?_); rintro e w1 ⟨rfl, k1⟩; replace HB := Lib.hid (HB.out.kept k1 (fun h => h)); replace HK := Lib.hid (HK.out.trans k1); have z1 := HB.out.lt; have q0 := HB.out.h0; have q1 := HB.out.h1; have q2 := HB.out.h2; have q3 := HB.out.h3; have q4 := HB.out.h4; clear k1)
    | (go_at_call 54; (with_reducible refine (In_cats k _ _ (by simp)).mono ?_); rintro e w1 ⟨rfl, k1⟩; replace HB := Lib.hid (HB.out.kept k1 (fun h => h)); replace HK := Lib.hid (HK.out.trans k1); have z1 := HB.out.lt; have q0 := HB.out.h0; have q1 := HB.out.h1; have q2 := HB.out.h2; have q3 := HB.out.h3; have q4 := HB.out.h4; clear k1)
    | (go_at_call 54; (with_reducible refine (In_ones k _ _ (by simp)).mono ?_); rintro e w1 ⟨rfl, k1⟩; replace HB := Lib.hid (HB.out.kept k1 (fun h => h)); replace HK := Lib.hid (HK.out.trans k1); have z1 := HB.out.lt; have q0 := HB.out.h0; have q1 := HB.out.h1; have q2 := HB.out.h2; have q3 := HB.out.h3; have q4 := HB.out.h4; clear k1)
    | (go_at_call 54; (with_reducible refine (In_kids k _ _ (by simp)).mono ?_); rintro e w1 ⟨rfl, k1⟩; replace HB := Lib.hid (HB.out.kept k1 (fun h => h)); replace HK := Lib.hid (HK.out.trans k1); have z1 := HB.out.lt; have q0 := HB.out.h0; have q1 := HB.out.h1; have q2 := HB.out.h2; have q3 := HB.out.h3; have q4 := HB.out.h4; clear k1))
  all_goals
    go_ret
    refine ⟨ret_int (Eq.symm ?_), by repeat (first | exact HK.out | refine Kept.alloc ?_ _)⟩
    try have hx0 := bne_t ‹((kids.length : Int) != 0) = true›
    try have hx0 := bne_f ‹((kids.length : Int) != 0) = false›
    try have hx1 := bne_t ‹((kids.length : Int) != 1) = true›
    try have hx1 := bne_f ‹((kids.length : Int) != 1) = false›
    try have hx2 := beq_t ‹((t.size : Int) == 0) = true›
    try have hx2 := beq_f ‹((t.size : Int) == 0) = false›
    have hg := HG.out
    have hle := HL.out; rw [node_other (by omega)]
    rw [hle.1, hle.2]
    repeat (first | rfl | rw [if_pos (by first | omega | assumption)] | rw [if_neg (by first | omega | (intro hx; rw [hx] at hnb; cases hnb))])

set_option maxRecDepth 100000 in
set_option maxHeartbeats 2000000 in
theorem refNode_cond (k n : Int) (t nm : ByteArray) (kids : List PatT) (ka : Option Addr) (cap : Nat) (w : World) (hg : k = 21 ∨ k = 22) (ht : t.size < 1000000000) (hn : nm.size < 1000000000) (hl : kids.length ≤ 4096) :
    Calls Tryz.prog 40 #[.agg #[.int .i64 k, .string t, .int .i64 n, .string nm, .slice ka kids.length cap]] w (IntQ (nodeF (.mk k t n nm kids)) w) := by
  have btx : decide (isTextK k) = false := decide_eq_false (by simp only [isTextK, isNumK, isNameK] at *; omega)
  have bnu : decide (isNumK k) = false := decide_eq_false (by simp only [isTextK, isNumK, isNameK] at *; omega)
  have bna : decide (isNameK k) = true := decide_eq_true (by first | assumption | (simp only [isTextK, isNumK, isNameK] at *; omega))
  have bca : decide (k = 18 ∨ k = 19) = false := decide_eq_false (by simp only [isTextK, isNumK, isNameK] at *; omega)
  have bon : decide (20 ≤ k ∧ k ≤ 22) = true := decide_eq_true (by first | assumption | (simp only [isTextK, isNumK, isNameK] at *; omega))
  have bki : decide (18 ≤ k ∧ k ≤ 22) = true := decide_eq_true (by first | assumption | (simp only [isTextK, isNumK, isNameK] at *; omega))
  have hr : 1 ≤ k ∧ k ≤ 24 := by first | omega | (simp only [isTextK, isNumK] at hg; omega)
  obtain ⟨hr1, hr2⟩ := hr
  have b1 : ((k : Int) == 1) = false := by first | (simp; omega) | (simp only [isNumK] at hg; simp; omega)
  have hle : leastK k = 1 ∧ mostK k = 1 := by unfold leastK mostK; constructor <;> (repeat (first | rw [if_pos (by omega)] | rw [if_neg (by omega)]))
  have hm : nm.size ≤ maxLen := by unfold maxLen; omega
  have hspec : nodeF (.mk k t n nm kids) = nodeF (.mk k t n nm kids) := rfl
  have B0 := Box5.new w (.int .i64 k) (.string t) (.int .i64 n) (.string nm) (.slice ka kids.length cap) 30
  have K0 : Hid (Kept Nix w (w.alloc (.cells #[.int .i64 k, .string t, .int .i64 n, .string nm, .slice ka kids.length cap] 30))) := (Kept.refl _ _).alloc _
  have HB := Lib.hid B0; have HK := K0; have HG := Lib.hid hg; have HL := Lib.hid hle; clear B0 hg hle hspec K0
  cases hnb : namedF nm
  all_goals
    go_enter Tryz.func40, Tryz.ntmps40
    go_wp2_with (first
      | (go_at_call 52; (with_reducible refine (texts_any k _).mono ?_); rintro e w1 ⟨rfl, k1⟩; replace HB := Lib.hid (HB.out.kept k1 (fun h => h)); replace HK := Lib.hid (HK.out.trans k1); have z1 := HB.out.lt; have q0 := HB.out.h0; have q1 := HB.out.h1; have q2 := HB.out.h2; have q3 := HB.out.h3; have q4 := HB.out.h4; clear k1)
      | (go_at_call 53; (with_reducible refine (numbers_any k _).mono ?_); rintro e w1 ⟨rfl, k1⟩; replace HB := Lib.hid (HB.out.kept k1 (fun h => h)); replace HK := Lib.hid (HK.out.trans k1); have z1 := HB.out.lt; have q0 := HB.out.h0; have q1 := HB.out.h1; have q2 := HB.out.h2; have q3 := HB.out.h3; have q4 := HB.out.h4; clear k1)
      | (go_at_call 54; (with_reducible refine (In_names k _ _ (by simp)).mono ?_); rintro e w1 ⟨rfl, k1⟩; replace HB := Lib.hid (HB.out.kept k1 (fun h => h)); replace HK := Lib.hid (HK.out.trans k1); have z1 := HB.out.lt; have q0 := HB.out.h0; have q1 := HB.out.h1; have q2 := HB.out.h2; have q3 := HB.out.h3; have q4 := HB.out.h4; clear k1)
      | (go_at_call 20; (with_reducible refine (refNamed_any nm _ hm).mono ?_); rintro e w1 ⟨rfl, k1⟩; replace HB := Lib.hid (HB.out.kept k1 (fun h => h)); replace HK := Lib.hid (HK.out.trans k1); have z1 := HB.out.lt; have q0 := HB.out.h0; have q1 := HB.out.h1; have q2 := HB.out.h2; have q3 := HB.out.h3; have q4 := HB.out.h4; clear k1)
      | (go_at_call 54; (with_reducible refine (In_cats k _ _ (by simp)).mono ?_); rintro e w1 ⟨rfl, k1⟩; replace HB := Lib.hid (HB.out.kept k1 (fun h => h)); replace HK := Lib.hid (HK.out.trans k1); have z1 := HB.out.lt; have q0 := HB.out.h0; have q1 := HB.out.h1; have q2 := HB.out.h2; have q3 := HB.out.h3; have q4 := HB.out.h4; clear k1)
      | (go_at_call 54; (with_reducible refine (In_ones k _ _ (by simp)).mono ?_); rintro e w1 ⟨rfl, k1⟩; replace HB := Lib.hid (HB.out.kept k1 (fun h => h)); replace HK := Lib.hid (HK.out.trans k1); have z1 := HB.out.lt; have q0 := HB.out.h0; have q1 := HB.out.h1; have q2 := HB.out.h2; have q3 := HB.out.h3; have q4 := HB.out.h4; clear k1)
      | (go_at_call 54; (with_reducible refine (In_kids k _ _ (by simp)).mono ?_); rintro e w1 ⟨rfl, k1⟩; replace HB := Lib.hid (HB.out.kept k1 (fun h => h)); replace HK := Lib.hid (HK.out.trans k1); have z1 := HB.out.lt; have q0 := HB.out.h0; have q1 := HB.out.h1; have q2 := HB.out.h2; have q3 := HB.out.h3; have q4 := HB.out.h4; clear k1))
    all_goals
      go_ret
      refine ⟨ret_int (Eq.symm ?_), by repeat (first | exact HK.out | refine Kept.alloc ?_ _)⟩
      try have hx0 := bne_t ‹((kids.length : Int) != 0) = true›
      try have hx0 := bne_f ‹((kids.length : Int) != 0) = false›
      try have hx1 := bne_t ‹((kids.length : Int) != 1) = true›
      try have hx1 := bne_f ‹((kids.length : Int) != 1) = false›
      try have hx2 := beq_t ‹((t.size : Int) == 0) = true›
      try have hx2 := beq_f ‹((t.size : Int) == 0) = false›
      have hg := HG.out
      have hle := HL.out; rw [node_name (by unfold isNameK; omega)]
      rw [hle.1, hle.2]
      repeat (first | rfl | rw [if_pos (by first | omega | assumption)] | rw [if_neg (by first | omega | (intro hx; rw [hx] at hnb; cases hnb))])

set_option maxRecDepth 100000 in
set_option maxHeartbeats 2000000 in
theorem refNode_cursor (k n : Int) (t nm : ByteArray) (kids : List PatT) (ka : Option Addr) (cap : Nat) (w : World) (hg : k = 23 ∨ k = 24) (ht : t.size < 1000000000) (hn : nm.size < 1000000000) (hl : kids.length ≤ 4096) :
    Calls Tryz.prog 40 #[.agg #[.int .i64 k, .string t, .int .i64 n, .string nm, .slice ka kids.length cap]] w (IntQ (nodeF (.mk k t n nm kids)) w) := by
  have btx : decide (isTextK k) = false := decide_eq_false (by simp only [isTextK, isNumK, isNameK] at *; omega)
  have bnu : decide (isNumK k) = false := decide_eq_false (by simp only [isTextK, isNumK, isNameK] at *; omega)
  have bna : decide (isNameK k) = true := decide_eq_true (by first | assumption | (simp only [isTextK, isNumK, isNameK] at *; omega))
  have bca : decide (k = 18 ∨ k = 19) = false := decide_eq_false (by simp only [isTextK, isNumK, isNameK] at *; omega)
  have bon : decide (20 ≤ k ∧ k ≤ 22) = false := decide_eq_false (by simp only [isTextK, isNumK, isNameK] at *; omega)
  have bki : decide (18 ≤ k ∧ k ≤ 22) = false := decide_eq_false (by simp only [isTextK, isNumK, isNameK] at *; omega)
  have hr : 1 ≤ k ∧ k ≤ 24 := by first | omega | (simp only [isTextK, isNumK] at hg; omega)
  obtain ⟨hr1, hr2⟩ := hr
  have b1 : ((k : Int) == 1) = false := by first | (simp; omega) | (simp only [isNumK] at hg; simp; omega)
  have hle : leastK k = 0 ∧ mostK k = 0 := plain_zero (by first | omega | (simp only [isTextK, isNumK] at hg; omega))
  have hm : nm.size ≤ maxLen := by unfold maxLen; omega
  have hspec : nodeF (.mk k t n nm kids) = nodeF (.mk k t n nm kids) := rfl
  have B0 := Box5.new w (.int .i64 k) (.string t) (.int .i64 n) (.string nm) (.slice ka kids.length cap) 30
  have K0 : Hid (Kept Nix w (w.alloc (.cells #[.int .i64 k, .string t, .int .i64 n, .string nm, .slice ka kids.length cap] 30))) := (Kept.refl _ _).alloc _
  have HB := Lib.hid B0; have HK := K0; have HG := Lib.hid hg; have HL := Lib.hid hle; clear B0 hg hle hspec K0
  cases hnb : namedF nm
  all_goals
    go_enter Tryz.func40, Tryz.ntmps40
    go_wp2_with (first
      | (go_at_call 52; (with_reducible refine (texts_any k _).mono ?_); rintro e w1 ⟨rfl, k1⟩; replace HB := Lib.hid (HB.out.kept k1 (fun h => h)); replace HK := Lib.hid (HK.out.trans k1); have z1 := HB.out.lt; have q0 := HB.out.h0; have q1 := HB.out.h1; have q2 := HB.out.h2; have q3 := HB.out.h3; have q4 := HB.out.h4; clear k1)
      | (go_at_call 53; (with_reducible refine (numbers_any k _).mono ?_); rintro e w1 ⟨rfl, k1⟩; replace HB := Lib.hid (HB.out.kept k1 (fun h => h)); replace HK := Lib.hid (HK.out.trans k1); have z1 := HB.out.lt; have q0 := HB.out.h0; have q1 := HB.out.h1; have q2 := HB.out.h2; have q3 := HB.out.h3; have q4 := HB.out.h4; clear k1)
      | (go_at_call 54; (with_reducible refine (In_names k _ _ (by simp)).mono ?_); rintro e w1 ⟨rfl, k1⟩; replace HB := Lib.hid (HB.out.kept k1 (fun h => h)); replace HK := Lib.hid (HK.out.trans k1); have z1 := HB.out.lt; have q0 := HB.out.h0; have q1 := HB.out.h1; have q2 := HB.out.h2; have q3 := HB.out.h3; have q4 := HB.out.h4; clear k1)
      | (go_at_call 20; (with_reducible refine (refNamed_any nm _ hm).mono ?_); rintro e w1 ⟨rfl, k1⟩; replace HB := Lib.hid (HB.out.kept k1 (fun h => h)); replace HK := Lib.hid (HK.out.trans k1); have z1 := HB.out.lt; have q0 := HB.out.h0; have q1 := HB.out.h1; have q2 := HB.out.h2; have q3 := HB.out.h3; have q4 := HB.out.h4; clear k1)
      | (go_at_call 54; (with_reducible refine (In_cats k _ _ (by simp)).mono ?_); rintro e w1 ⟨rfl, k1⟩; replace HB := Lib.hid (HB.out.kept k1 (fun h => h)); replace HK := Lib.hid (HK.out.trans k1); have z1 := HB.out.lt; have q0 := HB.out.h0; have q1 := HB.out.h1; have q2 := HB.out.h2; have q3 := HB.out.h3; have q4 := HB.out.h4; clear k1)
      | (go_at_call 54; (with_reducible refine (In_ones k _ _ (by simp)).mono ?_); rintro e w1 ⟨rfl, k1⟩; replace HB := Lib.hid (HB.out.kept k1 (fun h => h)); replace HK := Lib.hid (HK.out.trans k1); have z1 := HB.out.lt; have q0 := HB.out.h0; have q1 := HB.out.h1; have q2 := HB.out.h2; have q3 := HB.out.h3; have q4 := HB.out.h4; clear k1)
      | (go_at_call 54; (with_reducible refine (In_kids k _ _ (by simp)).mono ?_); rintro e w1 ⟨rfl, k1⟩; replace HB := Lib.hid (HB.out.kept k1 (fun h => h)); replace HK := Lib.hid (HK.out.trans k1); have z1 := HB.out.lt; have q0 := HB.out.h0; have q1 := HB.out.h1; have q2 := HB.out.h2; have q3 := HB.out.h3; have q4 := HB.out.h4; clear k1))
    all_goals
      go_ret
      refine ⟨ret_int (Eq.symm ?_), by repeat (first | exact HK.out | refine Kept.alloc ?_ _)⟩
      try have hx0 := bne_t ‹((kids.length : Int) != 0) = true›
      try have hx0 := bne_f ‹((kids.length : Int) != 0) = false›
      try have hx1 := bne_t ‹((kids.length : Int) != 1) = true›
      try have hx1 := bne_f ‹((kids.length : Int) != 1) = false›
      try have hx2 := beq_t ‹((t.size : Int) == 0) = true›
      try have hx2 := beq_f ‹((t.size : Int) == 0) = false›
      have hg := HG.out
      have hle := HL.out; rw [node_name (by unfold isNameK; omega)]
      rw [hle.1, hle.2]
      repeat (first | rfl | rw [if_pos (by first | omega | assumption)] | rw [if_neg (by first | omega | (intro hx; rw [hx] at hnb; cases hnb))])


theorem refNode_any (p : PatT) (v : Value) (S : Nat → Prop) (w : World) (hp : PatV w S v p) (hl : p.kids.length ≤ 4096) : Calls Tryz.prog 40 #[v] w (IntQ (nodeF p) w) := by
  obtain ⟨k, t, n, nm, kids⟩ := p
  obtain ⟨ka, cap, rfl, ⟨h1, h2, h3⟩, _⟩ := hp
  dsimp only [PatT.kind_mk, PatT.text_mk, PatT.n_mk, PatT.name_mk, PatT.kids_mk] at h1 h2 h3 hl ⊢
  by_cases c0 : k < 1 ∨ 24 < k
  · have fin : Hid (nodeF (.mk k t n nm kids) = 1) := by unfold Hid nodeF; rw [PatT.kind_mk, if_pos c0]
    rcases c0 with c0 | c0
    · go_enter Tryz.func40, Tryz.ntmps40
      go_wp2_with fail
      go_ret
      exact ⟨ret_int fin.out.symm, (Kept.refl _ _).alloc _⟩
    · go_enter Tryz.func40, Tryz.ntmps40
      go_wp2_with fail
      go_ret
      exact ⟨ret_int fin.out.symm, (Kept.refl _ _).alloc _⟩
  rcases (show k = 1 ∨ isTextK k ∨ isNumK k ∨ (12 ≤ k ∧ k ≤ 17) ∨ (k = 18 ∨ k = 19) ∨ k = 20 ∨ (k = 21 ∨ k = 22) ∨ (k = 23 ∨ k = 24) by unfold isTextK isNumK; omega) with h | h | h | h | h | h | h | h
  · exact refNode_lit k n t nm kids ka cap w h h1 h2 hl
  · exact refNode_text k n t nm kids ka cap w h h1 h2 hl
  · exact refNode_num k n t nm kids ka cap w h h1 h2 hl
  · exact refNode_plain k n t nm kids ka cap w h h1 h2 hl
  · exact refNode_cat k n t nm kids ka cap w h h1 h2 hl
  · exact refNode_arbno k n t nm kids ka cap w h h1 h2 hl
  · exact refNode_cond k n t nm kids ka cap w h h1 h2 hl
  · exact refNode_cursor k n t nm kids ka cap w h h1 h2 hl
end Go.Proofs.YtcfcdobgpldoiaaGreatDoor
