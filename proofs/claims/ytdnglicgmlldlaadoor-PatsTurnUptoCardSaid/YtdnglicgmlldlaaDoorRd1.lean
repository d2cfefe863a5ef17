/- The reader of patterns: fail, is, need, word, name. -/
import Derived.Test.YtdnglicgmlldlaaDoorRd0
import Derived.WalkLawsBesides
namespace Go.Proofs.YtdnglicgmlldlaaDoor
open Go.RowKit

def Threw (er : Er) (e : Ending) : Prop := e = .panicked [{ v := oopsV er, recovered := false }]
set_option maxRecDepth 100000 in
theorem fail_any (a : Value) (er : Int) (i : Nat) (w : World) : Calls Tryd.prog 21 #[a, .int .i64 er, .int .i64 i] w fun e w' => Threw (er, i) e ∧ w = w' := by
  go_enter Tryd.func21, Tryd.ntmps21
  go_wp2_with fail
  exact ⟨rfl, rfl, rfl⟩

def IsPost (c N W : Nat) (s : ByteArray) (i d : Nat) (w : World) (e : Ending) (w' : World) : Prop :=
  e = .returned (.bool (isP c s i).1) ∧ Rdr N W s (isP c s i).2 d w' ∧ Kept (· = N) w w'
set_option maxRecDepth 100000 in
set_option maxHeartbeats 1000000 in
theorem is_any (c N W : Nat) (hc : c < 256) (s : ByteArray) (i d : Nat) (w : World) (hr : Rdr N W s i d w) (hi : i ≤ s.size) (hs : s.size ≤ 1000000000) :
    Calls Tryd.prog 40 #[.pointer (some ⟨N, 0, none⟩), .int .u8 c] w (IsPost c N W s i d w) := by
  have HR := Lib.hid hr; clear hr
  have hw : wrap64 (c : Int) = c := by unfold wrap64; omega
  have hle := skip_le hi
  go_enter Tryd.func40, Tryd.ntmps40
  go_wp2_with fail
  refine (next_any N W s i d _ HR.out hi hs).mono ?_
  rintro e w1 ⟨rfl, R1, K1⟩
  by_cases hp : peek s (skip s i) = c
  · have hb : (peek s (skip s i) != (c : Int)) = false := by simpa using hp
    have hlt : skip s i < s.size := by
      unfold peek at hp; split at hp
      · assumption
      · omega
    have e1 : Hid (isP c s i = (true, skip s i + 1)) := by unfold Hid isP; rw [if_pos hp]
    have q1 := R1.c1; have f1 := R1.fr 1
    have fin : Hid (∀ w', w' = w1.setCell ⟨N, 1, none⟩ (.int .i64 ((skip s i + 1 : Nat) : Int)) → IsPost c N W s i d w (.returned (.bool true)) w') := by
      rintro w' rfl; unfold IsPost; rw [e1.out]; exact ⟨rfl, R1.setAt _, K1.setCell (p := ⟨N, 1, none⟩) (.inl rfl) _⟩
    clear R1 K1 hp
    go_wp2_with fail
    go_ret
    exact fin.out _ rfl
  · have hb : (peek s (skip s i) != (c : Int)) = true := by simpa using hp
    have e1 : Hid (isP c s i = (false, skip s i)) := by unfold Hid isP; rw [if_neg hp]
    have fin : Hid (IsPost c N W s i d w (.returned (.bool false)) w1) := by
      unfold Hid IsPost; rw [e1.out]; exact ⟨rfl, R1, K1⟩
    clear R1 K1 hp
    go_wp2_with fail
    go_ret
    exact fin.out

def NeedPost (c N W : Nat) (s : ByteArray) (i d : Nat) (w : World) (e : Ending) (w' : World) : Prop :=
  Kept (· = N) w w' ∧ match needP c s i with
    | .ok k => e = .returned (.tuple #[]) ∧ Rdr N W s k d w'
    | .error er => Threw er e
set_option maxRecDepth 100000 in
set_option maxHeartbeats 1000000 in
theorem need_any (c N W : Nat) (hc : c < 256) (s : ByteArray) (i d : Nat) (w : World) (hr : Rdr N W s i d w) (hi : i ≤ s.size) (hs : s.size ≤ 1000000000) :
    Calls Tryd.prog 52 #[.pointer (some ⟨N, 0, none⟩), .int .u8 c] w (NeedPost c N W s i d w) := by
  have HR := Lib.hid hr; clear hr
  go_enter Tryd.func52, Tryd.ntmps52
  go_wp2_with fail
  refine (is_any c N W hc s i d _ HR.out hi hs).mono ?_
  rintro e w1 ⟨rfl, R1, K1⟩
  by_cases hp : peek s (skip s i) = c
  · have e1 : isP c s i = (true, skip s i + 1) := by unfold isP; rw [if_pos hp]
    have e2 : needP c s i = .ok (skip s i + 1) := by unfold needP; rw [if_pos hp]
    rw [e1] at R1 ⊢
    have fin : Hid (NeedPost c N W s i d w (.returned (.tuple #[])) w1) := by unfold Hid NeedPost; rw [e2]; exact ⟨K1, rfl, R1⟩
    clear e1 e2 hp R1 K1
    go_wp2_with fail
    first | go_end0 | (refine bodyPost_ret (results_none rfl _ _ _) rfl ?_)
    exact fin.out
  · have e1 : isP c s i = (false, skip s i) := by unfold isP; rw [if_neg hp]
    have e2 : needP c s i = .error (2, skip s i) := by unfold needP; rw [if_neg hp]
    rw [e1] at R1 ⊢
    have q1 := R1.c1
    have fin : Hid (∀ e, Threw (2, skip s i) e → NeedPost c N W s i d w e w1) := by intro e h; unfold NeedPost; rw [e2]; exact ⟨K1, h⟩
    clear e1 e2 hp R1 K1
    go_wp2_with fail
    refine (fail_any _ 2 (skip s i) w1).mono ?_
    rintro e w2 ⟨rfl, rfl⟩
    go_wp2_with fail
    exact ⟨rfl, fin.out _ rfl⟩
end Go.Proofs.YtdnglicgmlldlaaDoor
