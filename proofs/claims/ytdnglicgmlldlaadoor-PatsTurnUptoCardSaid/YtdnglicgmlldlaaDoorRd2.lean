/- The reader of patterns: word, name. -/
import Derived.Test.YtdnglicgmlldlaaDoorRd1
namespace Go.Proofs.YtdnglicgmlldlaaDoor
open Go.RowKit

def RPost {α : Type} (N W : Nat) (s : ByteArray) (d : Nat) (r : Res α) (val : α → World → Value → Prop) (w : World) (e : Ending) (w' : World) : Prop :=
  Kept (· = N) w w' ∧ match r with
    | .ok (a, k) => ∃ v, e = .returned v ∧ val a w' v ∧ Rdr N W s k d w'
    | .error er => Threw er e
def wordV (x : ByteArray × Nat) (_ : World) (v : Value) : Prop := v = .tuple #[.string x.1, .int .i64 x.2]
def strV (x : ByteArray) (_ : World) (v : Value) : Prop := v = .string x
theorem peek_at {s : ByteArray} {k : Nat} (h : k < s.size) : peek s k = s[k].toNat := by unfold peek; rw [dif_pos h]
theorem peek_lt {s : ByteArray} {k : Nat} (h : 0 ≤ peek s k) : k < s.size := by
  unfold peek at h; split at h
  · assumption
  · omega
theorem isW_eq (c : UInt8) : isW c = ((decide ((65 : Int) ≤ (c.toNat : Int)) && decide ((c.toNat : Int) ≤ 90)) || (decide ((48 : Int) ≤ (c.toNat : Int)) && decide ((c.toNat : Int) ≤ 57))) := by
  rw [Bool.eq_iff_iff]; simp [isW, upperN, digitN]; omega

set_option maxRecDepth 100000 in
set_option maxHeartbeats 4000000 in
theorem word_any (N W : Nat) (s : ByteArray) (i d : Nat) (w : World) (hr : Rdr N W s i d w) (hi : i ≤ s.size) (hs : s.size ≤ 1000000000) :
    Calls Tryd.prog 64 #[.pointer (some ⟨N, 0, none⟩)] w (RPost N W s d (wordP s i) wordV w) := by
  have HR := Lib.hid hr; clear hr
  go_enter Tryd.func64, Tryd.ntmps64
  go_wp2_with fail
  refine (next_any N W s i d _ HR.out hi hs).mono ?_
  rintro e w1 ⟨rfl, R1, K1⟩
  have hle := skip_le hi
  have q1 := R1.c1
  by_cases hp : 65 ≤ peek s (skip s i) ∧ peek s (skip s i) ≤ 90
  · obtain ⟨p1, p2⟩ := hp
    have g1 : decide (peek s (skip s i) < 65) = false := decide_eq_false (by omega)
    have g2 : decide (90 < peek s (skip s i)) = false := decide_eq_false (by omega)
    have e2 : Hid (wordP s i = .ok ((s.extract (skip s i) (runEnd isW s (skip s i)), skip s i), runEnd isW s (skip s i))) := by unfold Hid wordP; rw [if_pos ⟨p1, p2⟩]
    have R1' := Lib.hid R1; have K1' := Lib.hid K1
    have G1 := Lib.hid g1; have G2 := Lib.hid g2
    clear R1 K1
    go_wp2_with fail
    generalize hj : skip s i = j at *
    clear g1 g2 G1 G2 p1 p2
    go_loopg [] (s.size - j) (fun f wr => ∃ k, j ≤ k ∧ k ≤ s.size ∧ f = s.size - k ∧ Hid (runEnd isW s k = runEnd isW s j) ∧ Rdr N W s k d wr ∧ Kept (· = N) w wr)
    case atStart => exact ⟨j, Nat.le_refl _, hle, rfl, rfl, R1'.out, K1'.out⟩
    case round =>
      obtain ⟨k, hk1, hk2, rfl, hrun, hR, hK⟩ := hrel
      have q0 := hR.c0; have q1 := hR.c1; have f1 := hR.fr 1
      have RR := Lib.hid hR; have KK := Lib.hid hK
      clear hR hK R1' K1'
      by_cases hlt : k < s.size
      · have g1 : decide ((k : Int) < (s.size : Int)) = true := decide_eq_true (by omega)
        have bi : (k : Int) < (s.size : Int) := by omega
        have key : (isW s[k] = false ∧ ∃ x65 x90 x48 x57 : Bool, decide ((65 : Int) ≤ (s[k].toNat : Int)) = x65 ∧ decide ((s[k].toNat : Int) ≤ 90) = x90 ∧ decide ((48 : Int) ≤ (s[k].toNat : Int)) = x48 ∧ decide ((s[k].toNat : Int) ≤ 57) = x57 ∧
              ((x65 = false ∧ x90 = true ∧ x48 = false ∧ x57 = true) ∨ (x65 = false ∧ x90 = true ∧ x48 = true ∧ x57 = false) ∨ (x65 = true ∧ x90 = false ∧ x48 = true ∧ x57 = false))) ∨
            (isW s[k] = true ∧ ∃ x65 x90 x48 x57 : Bool, decide ((65 : Int) ≤ (s[k].toNat : Int)) = x65 ∧ decide ((s[k].toNat : Int) ≤ 90) = x90 ∧ decide ((48 : Int) ≤ (s[k].toNat : Int)) = x48 ∧ decide ((s[k].toNat : Int) ≤ 57) = x57 ∧
              ((x65 = false ∧ x90 = true ∧ x48 = true ∧ x57 = true) ∨ (x65 = true ∧ x90 = true ∧ x48 = true ∧ x57 = false))) := by
          rw [isW_eq]
          rcases (show s[k].toNat < 48 ∨ (48 ≤ s[k].toNat ∧ s[k].toNat ≤ 57) ∨ (57 < s[k].toNat ∧ s[k].toNat < 65) ∨ (65 ≤ s[k].toNat ∧ s[k].toNat ≤ 90) ∨ 90 < s[k].toNat by omega) with h | h | h | h | h
          · exact .inl ⟨by simp; omega, _, _, _, _, rfl, rfl, rfl, rfl, .inl ⟨decide_eq_false (by omega), decide_eq_true (by omega), decide_eq_false (by omega), decide_eq_true (by omega)⟩⟩
          · exact .inr ⟨by simp; omega, _, _, _, _, rfl, rfl, rfl, rfl, .inl ⟨decide_eq_false (by omega), decide_eq_true (by omega), decide_eq_true (by omega), decide_eq_true (by omega)⟩⟩
          · exact .inl ⟨by simp; omega, _, _, _, _, rfl, rfl, rfl, rfl, .inr (.inl ⟨decide_eq_false (by omega), decide_eq_true (by omega), decide_eq_true (by omega), decide_eq_false (by omega)⟩)⟩
          · exact .inr ⟨by simp; omega, _, _, _, _, rfl, rfl, rfl, rfl, .inr ⟨decide_eq_true (by omega), decide_eq_true (by omega), decide_eq_true (by omega), decide_eq_false (by omega)⟩⟩
          · exact .inl ⟨by simp; omega, _, _, _, _, rfl, rfl, rfl, rfl, .inr (.inr ⟨decide_eq_true (by omega), decide_eq_false (by omega), decide_eq_true (by omega), decide_eq_false (by omega)⟩)⟩
        rcases key with ⟨hw, x65, x90, x48, x57, h65, h90, h48, h57, hx⟩ | ⟨hw, x65, x90, x48, x57, h65, h90, h48, h57, hx⟩
        · have e3 : Hid (runEnd isW s j = k) := hrun.out.symm.trans (run_no hlt hw)
          have fin : Hid (∀ w', Rdr N W s k d w' → Kept (· = N) w w' → RPost N W s d (wordP s i) wordV w (.returned (.tuple #[.string (s.extract j k), .int .i64 j])) w') := by
            intro w' h1 h2; unfold RPost; rw [e2.out, e3.out]; exact ⟨h2, _, rfl, rfl, h1⟩
          clear hw
          rcases hx with ⟨rfl, rfl, rfl, rfl⟩ | ⟨rfl, rfl, rfl, rfl⟩ | ⟨rfl, rfl, rfl, rfl⟩
          all_goals
            go_wp2_with fail
            go_quiet (fail)
            go_wp2_with fail
            go_quiet (fail)
            go_wp2_with fail
            go_ret2
            exact fin.out _ ((RR.out.drewN _).drewN _) ((KK.out.drewN _).drewN _)
        · have hr1 : Hid (runEnd isW s (k + 1) = runEnd isW s j) := (run_yes hlt hw).symm.trans hrun.out
          clear hw
          rcases hx with ⟨rfl, rfl, rfl, rfl⟩ | ⟨rfl, rfl, rfl, rfl⟩
          all_goals
            go_wp2_with fail
            go_quiet (fail)
            have R2 := Lib.hid ((RR.out.drewN nq).setAt (k + 1)); have K2 := Lib.hid ((KK.out.drewN nq).setCell (p := ⟨N, 1, none⟩) (.inl rfl) (.int .i64 ((k + 1 : Nat) : Int)))
            go_wp2_with fail
            go_roundg (s.size - (k + 1))
            case measure => omega
            case rel => exact ⟨k + 1, by omega, by omega, rfl, hr1, R2.out, K2.out⟩
      · have g1 : decide ((k : Int) < (s.size : Int)) = false := decide_eq_false (by omega)
        have e3 : Hid (runEnd isW s j = k) := hrun.out.symm.trans (run_end (by omega))
        have fin : Hid (∀ w', Rdr N W s k d w' → Kept (· = N) w w' → RPost N W s d (wordP s i) wordV w (.returned (.tuple #[.string (s.extract j k), .int .i64 j])) w') := by
          intro w' h1 h2; unfold RPost; rw [e2.out, e3.out]; exact ⟨h2, _, rfl, rfl, h1⟩
        go_wp2_with fail
        go_quiet (fail)
        go_wp2_with fail
        go_quiet (fail)
        go_wp2_with fail
        go_ret2
        exact fin.out _ ((RR.out.drewN _).drewN _) ((KK.out.drewN _).drewN _)
  · have e2 : wordP s i = .error (2, skip s i) := by unfold wordP; rw [if_neg hp]
    have fin : Hid (∀ e, Threw (2, skip s i) e → RPost N W s d (wordP s i) wordV w e w1) := by intro e h; unfold RPost; rw [e2]; exact ⟨K1, h⟩
    clear R1 K1 e2
    rcases (show peek s (skip s i) < 65 ∨ (65 ≤ peek s (skip s i) ∧ 90 < peek s (skip s i)) by omega) with h | ⟨h0, h⟩
    · have g1 : decide (peek s (skip s i) < 65) = true := decide_eq_true h
      clear hp h
      go_wp2_with fail
      refine (fail_any _ 2 (skip s i) w1).mono ?_
      rintro e w2 ⟨rfl, rfl⟩
      go_wp2_with fail
      exact ⟨rfl, fin.out _ rfl⟩
    · have g1 : decide (peek s (skip s i) < 65) = false := decide_eq_false (by omega)
      have g2 : decide (90 < peek s (skip s i)) = true := decide_eq_true h
      clear hp h h0
      go_wp2_with fail
      refine (fail_any _ 2 (skip s i) w1).mono ?_
      rintro e w2 ⟨rfl, rfl⟩
      go_wp2_with fail
      exact ⟨rfl, fin.out _ rfl⟩

theorem word_ok {s : ByteArray} {i k a : Nat} {x : ByteArray} (hi : i ≤ s.size) (h : wordP s i = .ok ((x, a), k)) : i < k ∧ k ≤ s.size ∧ x.size ≤ s.size ∧ a ≤ s.size ∧ 0 < x.size := by
  unfold wordP at h
  split at h
  · rename_i hp
    simp only [Except.ok.injEq, Prod.mk.injEq] at h
    obtain ⟨⟨rfl, rfl⟩, rfl⟩ := h
    have h1 := skip_ge s i
    have hlt : skip s i < s.size := peek_lt (by omega)
    have h2 : skip s i < runEnd isW s (skip s i) := by
      have hw : isW s[skip s i] = true := by
        rw [peek_at hlt] at hp; rw [isW_eq]; simp; omega
      rw [run_yes hlt hw]; have := run_ge isW s (skip s i + 1); omega
    have h3 := run_le (f := isW) (skip_le hi)
    refine ⟨by omega, h3, ?_, by omega, ?_⟩ <;> rw [ByteArray.size_extract] <;> omega
  · cases h

set_option maxRecDepth 100000 in
set_option maxHeartbeats 1000000 in
theorem name_any (N W : Nat) (s : ByteArray) (i d : Nat) (w : World) (hr : Rdr N W s i d w) (hi : i ≤ s.size) (hs : s.size ≤ 1000000000) :
    Calls Tryd.prog 54 #[.pointer (some ⟨N, 0, none⟩)] w (RPost N W s d (nameP s i) strV w) := by
  have HR := Lib.hid hr; clear hr
  go_enter Tryd.func54, Tryd.ntmps54
  go_wp2_with fail
  refine (word_any N W s i d _ HR.out hi hs).mono ?_
  rintro e w1 ⟨K1, h⟩
  cases hw : wordP s i with
  | error er =>
    rw [hw] at h
    obtain rfl := h
    have e1 : nameP s i = .error er := by unfold nameP; rw [hw]
    have fin : Hid (∀ e, Threw er e → RPost N W s d (nameP s i) strV w e w1) := by intro e h; unfold RPost; rw [e1]; exact ⟨K1, h⟩
    clear hw e1
    go_wp2_with fail
    exact ⟨rfl, fin.out _ rfl⟩
  | ok x =>
    obtain ⟨⟨x, a⟩, k⟩ := x
    rw [hw] at h
    obtain ⟨_, rfl, rfl, R1⟩ := h
    have hx := (word_ok hi hw).2.2.1
    by_cases hl : 16 < x.size
    · have e1 : nameP s i = .error (7, a) := by unfold nameP; rw [hw]; dsimp only; rw [if_pos hl]
      have fin : Hid (∀ e, Threw (7, a) e → RPost N W s d (nameP s i) strV w e w1) := by intro e h; unfold RPost; rw [e1]; exact ⟨K1, h⟩
      clear hw e1 R1 K1
      go_wp2_with fail
      refine (fail_any _ 7 a w1).mono ?_
      rintro e w2 ⟨rfl, rfl⟩
      go_wp2_with fail
      exact ⟨rfl, fin.out _ rfl⟩
    · have e1 : nameP s i = .ok (x, k) := by unfold nameP; rw [hw]; dsimp only; rw [if_neg hl]
      have fin : Hid (RPost N W s d (nameP s i) strV w (.returned (.string x)) w1) := by unfold Hid RPost; rw [e1]; exact ⟨K1, _, rfl, rfl, R1⟩
      clear hw e1 R1 K1
      go_wp2_with fail
      go_ret
      exact fin.out
end Go.Proofs.YtdnglicgmlldlaaDoor
