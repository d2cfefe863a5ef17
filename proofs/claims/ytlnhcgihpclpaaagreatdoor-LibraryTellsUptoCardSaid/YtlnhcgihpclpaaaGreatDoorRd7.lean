/- The reader of patterns: primary. -/
import Derived.Test.YtlnhcgihpclpaaaGreatDoorLm6
namespace Go.Proofs.YtlnhcgihpclpaaaGreatDoor
set_option linter.all false
open Go.RowKit

theorem index_words (W : Nat) (x : ByteArray) (w : World) (h : WordsAt W w) :
    Calls Tryz.prog 57 #[.slice (some ⟨W, 0, none⟩) 21 21, .string x] w fun e w' => e = .returned (.int .i64 (kindOf x)) ∧ w = w' := by
  refine (Tryz.slices_Index_string W 0 21 21 wordsL x w (by decide) (by decide) fun j hj => h.cell j hj).mono ?_
  rintro e w' ⟨rfl, rfl⟩
  exact ⟨rfl, rfl⟩
theorem name_lt {s : ByteArray} {i k : Nat} {nm : ByteArray} (hi : i ≤ s.size) (h : nameP s i = .ok (nm, k)) : nm.size < 1000000000 := by
  unfold nameP at h
  cases hw : wordP s i with
  | error e => rw [hw] at h; cases h
  | ok x =>
    obtain ⟨⟨x, a⟩, k'⟩ := x
    rw [hw] at h
    dsimp only at h
    split at h
    · cases h
    · simp only [Except.ok.injEq, Prod.mk.injEq] at h; obtain ⟨rfl, rfl⟩ := h; omega
theorem name_ok {s : ByteArray} {i k : Nat} {nm : ByteArray} (hi : i ≤ s.size) (h : nameP s i = .ok (nm, k)) : i < k ∧ k ≤ s.size := by
  unfold nameP at h
  cases hw : wordP s i with
  | error e => rw [hw] at h; cases h
  | ok x =>
    obtain ⟨⟨x, a⟩, k'⟩ := x
    rw [hw] at h
    dsimp only at h
    split at h
    · cases h
    · simp only [Except.ok.injEq, Prod.mk.injEq] at h; obtain ⟨rfl, rfl⟩ := h; have := word_ok hi hw; omega
set_option maxRecDepth 100000 in
set_option maxHeartbeats 4000000 in
theorem prim_at (N W : Nat) (s : ByteArray) (i d : Nat) (w : World) (inner : Nat → Res PatT) (hr : Rdr N W s i d w) (hi : i ≤ s.size) (hs6 : s.size ≤ 65536) (hc : peek s (skip s i) = 64) :
    Calls Tryz.prog 108 #[.pointer (some ⟨N, 0, none⟩)] w (RPost N W s d (primaryP inner s i) (patVal w.heap.size) w) := by
  have e0 : Hid (primaryP inner s i = nmP s (skip s i + 1) 23) := by unfold Hid primaryP; rw [hc]; rfl
  have hlt : skip s i < s.size := peek_lt (by omega)
  have HR := Lib.hid hr
  have hN := hr.lt; have hW := hr.ltW; clear hr
  have hle := skip_le hi
  have hs : s.size ≤ 1000000000 := by omega
  go_enter Tryz.func108, Tryz.ntmps108
  go_wp2_with fail
  refine (next_any N W s i d _ (HR.out.kept ((Kept.refl Nix w).alloc _) (fun h => h) (fun h => h)) hi hs).mono ?_
  rintro e w1 ⟨rfl, R1, K1⟩
  have b1 : (peek s (skip s i) == 39) = false := by simp; omega
  have b2 : (peek s (skip s i) == 64) = true := by simpa using hc
  have F1 : Hid (Five w.heap.size (.int .i64 0) (.string ⟨#[]⟩) (.int .i64 0) (.string ⟨#[]⟩) (.slice none 0 0) w1) := Five.kept (heap_alloc_new w _) K1 (by omega)
  have K1' : Hid (Kept (· = N) w w1) := ((Kept.refl _ w).alloc _).trans K1
  have q1 := R1.c1; have f1 := R1.fr 1
  have RR1 := Lib.hid (R1.setAt (skip s i + 1)); have KK1 := Lib.hid (K1'.out.setCell (p := ⟨N, 1, none⟩) (.inl rfl) (.int .i64 ((skip s i + 1 : Nat) : Int)))
  have FF1 := Lib.hid (F1.out.kept ((Kept.refl (· = N) w1).setCell (p := ⟨N, 1, none⟩) (.inl rfl) (.int .i64 ((skip s i + 1 : Nat) : Int))) (by omega))
  clear R1 K1 hc
  go_wp2_with fail
  refine (name_any N W s (skip s i + 1) d _ RR1.out hlt hs).mono ?_
  rintro e w2 ⟨K2, h⟩
  have F2 := Lib.hid (FF1.out.kept K2 (by omega))
  cases ht : nameP s (skip s i + 1) with
  | error er =>
    rw [ht] at h
    obtain rfl := h
    have hr : Hid (primaryP inner s i = .error er) := by unfold Hid; rw [e0.out]; unfold nmP; rw [ht]
    clear ht
    go_wp2_with fail
    exact ret_err rfl hr.out (KK1.out.trans K2)
  | ok x =>
    obtain ⟨nm, k⟩ := x
    rw [ht] at h
    obtain ⟨_, rfl, rfl, R2⟩ := h
    obtain ⟨c0, c1, c2, c3, c4, cf⟩ := F2.out.cells
    have RR2 := Lib.hid R2; clear R2
    have hts := name_lt (show skip s i + 1 ≤ s.size from hlt) ht
    have hr : Hid (primaryP inner s i = .ok (.mk 23 E0 0 nm [], k)) := by unfold Hid; rw [e0.out]; unfold nmP; rw [ht]
    clear ht
    have f0 := cf 0; have f1' := cf 1; have f2 := cf 2; have f3 := cf 3; have f4 := cf 4; clear cf q1 f1
    go_wp2_with fail
    exact ret_pat (p := .mk 23 E0 0 nm []) (S := Nix) rfl rfl F2.out RR2.out (KK1.out.trans K2) (Nat.le_refl _) hN hW hr.out ⟨e0_lt, hts, len0_lt⟩ (fun b hb => hb.elim) (by unfold PatsAt; trivial)
set_option maxRecDepth 100000 in
set_option maxHeartbeats 4000000 in
theorem prim_star (N W : Nat) (s : ByteArray) (i d : Nat) (w : World) (inner : Nat → Res PatT) (hr : Rdr N W s i d w) (hi : i ≤ s.size) (hs6 : s.size ≤ 65536) (hc : peek s (skip s i) = 42) :
    Calls Tryz.prog 108 #[.pointer (some ⟨N, 0, none⟩)] w (RPost N W s d (primaryP inner s i) (patVal w.heap.size) w) := by
  have e0 : Hid (primaryP inner s i = nmP s (skip s i + 1) 24) := by unfold Hid primaryP; rw [hc]; rfl
  have hlt : skip s i < s.size := peek_lt (by omega)
  have HR := Lib.hid hr
  have hN := hr.lt; have hW := hr.ltW; clear hr
  have hle := skip_le hi
  have hs : s.size ≤ 1000000000 := by omega
  go_enter Tryz.func108, Tryz.ntmps108
  go_wp2_with fail
  refine (next_any N W s i d _ (HR.out.kept ((Kept.refl Nix w).alloc _) (fun h => h) (fun h => h)) hi hs).mono ?_
  rintro e w1 ⟨rfl, R1, K1⟩
  have b1 : (peek s (skip s i) == 39) = false := by simp; omega
  have b2 : (peek s (skip s i) == 64) = false := by simp; omega
  have b3 : (peek s (skip s i) == 42) = true := by simpa using hc
  have F1 : Hid (Five w.heap.size (.int .i64 0) (.string ⟨#[]⟩) (.int .i64 0) (.string ⟨#[]⟩) (.slice none 0 0) w1) := Five.kept (heap_alloc_new w _) K1 (by omega)
  have K1' : Hid (Kept (· = N) w w1) := ((Kept.refl _ w).alloc _).trans K1
  have q1 := R1.c1; have f1 := R1.fr 1
  have RR1 := Lib.hid (R1.setAt (skip s i + 1)); have KK1 := Lib.hid (K1'.out.setCell (p := ⟨N, 1, none⟩) (.inl rfl) (.int .i64 ((skip s i + 1 : Nat) : Int)))
  have FF1 := Lib.hid (F1.out.kept ((Kept.refl (· = N) w1).setCell (p := ⟨N, 1, none⟩) (.inl rfl) (.int .i64 ((skip s i + 1 : Nat) : Int))) (by omega))
  clear R1 K1 hc
  go_wp2_with fail
  refine (name_any N W s (skip s i + 1) d _ RR1.out hlt hs).mono ?_
  rintro e w2 ⟨K2, h⟩
  have F2 := Lib.hid (FF1.out.kept K2 (by omega))
  cases ht : nameP s (skip s i + 1) with
  | error er =>
    rw [ht] at h
    obtain rfl := h
    have hr : Hid (primaryP inner s i = .error er) := by unfold Hid; rw [e0.out]; unfold nmP; rw [ht]
    clear ht
    go_wp2_with fail
    exact ret_err rfl hr.out (KK1.out.trans K2)
  | ok x =>
    obtain ⟨nm, k⟩ := x
    rw [ht] at h
    obtain ⟨_, rfl, rfl, R2⟩ := h
    obtain ⟨c0, c1, c2, c3, c4, cf⟩ := F2.out.cells
    have RR2 := Lib.hid R2; clear R2
    have hts := name_lt (show skip s i + 1 ≤ s.size from hlt) ht
    have hr : Hid (primaryP inner s i = .ok (.mk 24 E0 0 nm [], k)) := by unfold Hid; rw [e0.out]; unfold nmP; rw [ht]
    clear ht
    have f0 := cf 0; have f1' := cf 1; have f2 := cf 2; have f3 := cf 3; have f4 := cf 4; clear cf q1 f1
    go_wp2_with fail
    exact ret_pat (p := .mk 24 E0 0 nm []) (S := Nix) rfl rfl F2.out RR2.out (KK1.out.trans K2) (Nat.le_refl _) hN hW hr.out ⟨e0_lt, hts, len0_lt⟩ (fun b hb => hb.elim) (by unfold PatsAt; trivial)
set_option maxRecDepth 100000 in
set_option maxHeartbeats 4000000 in
theorem prim_noword (N W : Nat) (s : ByteArray) (i d : Nat) (w : World) (inner : Nat → Res PatT) (hr : Rdr N W s i d w) (hi : i ≤ s.size) (hs6 : s.size ≤ 65536) (h39 : peek s (skip s i) ≠ 39) (h64 : peek s (skip s i) ≠ 64) (h42 : peek s (skip s i) ≠ 42) (er : Er) (ht : wordP s (skip s i) = .error er) :
    Calls Tryz.prog 108 #[.pointer (some ⟨N, 0, none⟩)] w (RPost N W s d (primaryP inner s i) (patVal w.heap.size) w) := by
  have e0 : Hid (primaryP inner s i = wdP inner s (skip s i)) := by unfold Hid primaryP; rw [if_neg h39, if_neg h64, if_neg h42]
  have HR := Lib.hid hr
  have hN := hr.lt; have hW := hr.ltW; clear hr
  have hle := skip_le hi
  have hs : s.size ≤ 1000000000 := by omega
  go_enter Tryz.func108, Tryz.ntmps108
  go_wp2_with fail
  refine (next_any N W s i d _ (HR.out.kept ((Kept.refl Nix w).alloc _) (fun h => h) (fun h => h)) hi hs).mono ?_
  rintro e w1 ⟨rfl, R1, K1⟩
  have b1 : (peek s (skip s i) == 39) = false := by simpa using h39
  have b2 : (peek s (skip s i) == 64) = false := by simpa using h64
  have b3 : (peek s (skip s i) == 42) = false := by simpa using h42
  have F1 : Hid (Five w.heap.size (.int .i64 0) (.string ⟨#[]⟩) (.int .i64 0) (.string ⟨#[]⟩) (.slice none 0 0) w1) := Five.kept (heap_alloc_new w _) K1 (by omega)
  have K1' : Hid (Kept (· = N) w w1) := ((Kept.refl _ w).alloc _).trans K1
  have RR1 := Lib.hid R1
  clear R1 K1 h39 h64 h42
  have hr : Hid (primaryP inner s i = .error er) := by unfold Hid; rw [e0.out]; unfold wdP; rw [ht]
  go_wp2_with fail
  refine (word_any N W s (skip s i) d _ RR1.out hle hs).mono ?_
  rintro e w2 ⟨K2, h⟩
  rw [ht] at h
  obtain rfl := h
  clear ht
  go_wp2_with fail
  exact ret_err rfl hr.out (K1'.out.trans K2)
set_option maxRecDepth 100000 in
set_option maxHeartbeats 4000000 in
theorem prim_bad (N W : Nat) (s : ByteArray) (i d : Nat) (w : World) (inner : Nat → Res PatT) (hr : Rdr N W s i d w) (hi : i ≤ s.size) (hs6 : s.size ≤ 65536) (h39 : peek s (skip s i) ≠ 39) (h64 : peek s (skip s i) ≠ 64) (h42 : peek s (skip s i) ≠ 42) (x : ByteArray) (a k : Nat) (ht : wordP s (skip s i) = .ok ((x, a), k)) (hkd : kindOf x = -1 ∨ kindOf x = 0) :
    Calls Tryz.prog 108 #[.pointer (some ⟨N, 0, none⟩)] w (RPost N W s d (primaryP inner s i) (patVal w.heap.size) w) := by
  have e0 : Hid (primaryP inner s i = wdP inner s (skip s i)) := by unfold Hid primaryP; rw [if_neg h39, if_neg h64, if_neg h42]
  have HR := Lib.hid hr
  have hN := hr.lt; have hW := hr.ltW; clear hr
  have hle := skip_le hi
  have hs : s.size ≤ 1000000000 := by omega
  go_enter Tryz.func108, Tryz.ntmps108
  go_wp2_with fail
  refine (next_any N W s i d _ (HR.out.kept ((Kept.refl Nix w).alloc _) (fun h => h) (fun h => h)) hi hs).mono ?_
  rintro e w1 ⟨rfl, R1, K1⟩
  have b1 : (peek s (skip s i) == 39) = false := by simpa using h39
  have b2 : (peek s (skip s i) == 64) = false := by simpa using h64
  have b3 : (peek s (skip s i) == 42) = false := by simpa using h42
  have F1 : Hid (Five w.heap.size (.int .i64 0) (.string ⟨#[]⟩) (.int .i64 0) (.string ⟨#[]⟩) (.slice none 0 0) w1) := Five.kept (heap_alloc_new w _) K1 (by omega)
  have K1' : Hid (Kept (· = N) w w1) := ((Kept.refl _ w).alloc _).trans K1
  have RR1 := Lib.hid R1
  clear R1 K1 h39 h64 h42
  have hk := word_ok hle ht
  have hx : x.size ≤ 1000000 := by omega
  have hks : k ≤ s.size := by omega
  have hr : Hid (primaryP inner s i = .error (7, a)) := by unfold Hid; rw [e0.out]; unfold wdP; rw [ht]; dsimp only; unfold kindP; rw [if_pos hkd]
  go_wp2_with fail
  refine (word_any N W s (skip s i) d _ RR1.out hle hs).mono ?_
  rintro e w2 ⟨K2, h⟩
  rw [ht] at h
  obtain ⟨_, rfl, rfl, R2⟩ := h
  have F2 := Lib.hid (F1.out.kept K2 (by omega))
  have K2' : Hid (Kept (· = N) w w2) := K1'.out.trans K2
  have q2 := R2.c2
  have RR2 := Lib.hid R2
  clear R2 K2 ht hk b1 b2 b3
  go_wp2_with fail
  refine (index_words W x _ RR2.out.words).mono ?_
  rintro e w3 ⟨rfl, rfl⟩
  rcases hkd with hkd | hkd
  all_goals
    rw [hkd]
    clear hkd q2
    go_wp2_with fail
    refine (fail_any _ 7 a _).mono ?_
    rintro e w4 ⟨rfl, rfl⟩
    go_wp2_with fail
    exact ret_err rfl hr.out K2'.out
set_option maxRecDepth 100000 in
set_option maxHeartbeats 4000000 in
theorem prim_plain (N W : Nat) (s : ByteArray) (i d : Nat) (w : World) (inner : Nat → Res PatT) (hr : Rdr N W s i d w) (hi : i ≤ s.size) (hs6 : s.size ≤ 65536) (h39 : peek s (skip s i) ≠ 39) (h64 : peek s (skip s i) ≠ 64) (h42 : peek s (skip s i) ≠ 42) (x : ByteArray) (a k : Nat) (ht : wordP s (skip s i) = .ok ((x, a), k)) (kd : Int) (hkd : kindOf x = kd) (ha : kd ≠ -1 ∧ kd ≠ 0 ∧ kd ≠ 2 ∧ (kd < 3 ∨ 11 < kd) ∧ kd ≠ 20) :
    Calls Tryz.prog 108 #[.pointer (some ⟨N, 0, none⟩)] w (RPost N W s d (primaryP inner s i) (patVal w.heap.size) w) := by
  have e0 : Hid (primaryP inner s i = wdP inner s (skip s i)) := by unfold Hid primaryP; rw [if_neg h39, if_neg h64, if_neg h42]
  have HR := Lib.hid hr
  have hN := hr.lt; have hW := hr.ltW; clear hr
  have hle := skip_le hi
  have hs : s.size ≤ 1000000000 := by omega
  go_enter Tryz.func108, Tryz.ntmps108
  go_wp2_with fail
  refine (next_any N W s i d _ (HR.out.kept ((Kept.refl Nix w).alloc _) (fun h => h) (fun h => h)) hi hs).mono ?_
  rintro e w1 ⟨rfl, R1, K1⟩
  have b1 : (peek s (skip s i) == 39) = false := by simpa using h39
  have b2 : (peek s (skip s i) == 64) = false := by simpa using h64
  have b3 : (peek s (skip s i) == 42) = false := by simpa using h42
  have F1 : Hid (Five w.heap.size (.int .i64 0) (.string ⟨#[]⟩) (.int .i64 0) (.string ⟨#[]⟩) (.slice none 0 0) w1) := Five.kept (heap_alloc_new w _) K1 (by omega)
  have K1' : Hid (Kept (· = N) w w1) := ((Kept.refl _ w).alloc _).trans K1
  have RR1 := Lib.hid R1
  clear R1 K1 h39 h64 h42
  have hk := word_ok hle ht
  have hx : x.size ≤ 1000000 := by omega
  have hks : k ≤ s.size := by omega
  have hr : Hid (primaryP inner s i = .ok (.mk kd E0 0 E0 [], k)) := by
    unfold Hid; rw [e0.out]; unfold wdP; rw [ht]; dsimp only; unfold kindP; rw [hkd, if_neg (by omega), if_neg (by omega), if_neg (by omega), if_neg (by omega)]
  obtain ⟨a1, a2, a3, a4, a5⟩ := ha
  go_wp2_with fail
  refine (word_any N W s (skip s i) d _ RR1.out hle hs).mono ?_
  rintro e w2 ⟨K2, h⟩
  rw [ht] at h
  obtain ⟨_, rfl, rfl, R2⟩ := h
  have F2 := Lib.hid (F1.out.kept K2 (by omega))
  have K2' : Hid (Kept (· = N) w w2) := K1'.out.trans K2
  have q2 := R2.c2
  have RR2 := Lib.hid R2
  clear R2 K2 ht hk b1 b2 b3
  go_wp2_with fail
  refine (index_words W x _ RR2.out.words).mono ?_
  rintro e w3 ⟨rfl, rfl⟩
  rw [hkd]
  clear hkd q2
  have z1 : (kd == -1) = false := by simpa using a1
  have z2 : (kd == 0) = false := by simpa using a2
  have z3 : (kd == 2) = false := by simpa using a3
  have z4 : (kd == 20) = false := by simpa using a5
  have y3 : (kd == 3) = false := by simp; omega
  have y4 : (kd == 4) = false := by simp; omega
  have y5 : (kd == 5) = false := by simp; omega
  have y6 : (kd == 6) = false := by simp; omega
  have y7 : (kd == 7) = false := by simp; omega
  have y8 : (kd == 8) = false := by simp; omega
  have y9 : (kd == 9) = false := by simp; omega
  have y10 : (kd == 10) = false := by simp; omega
  have y11 : (kd == 11) = false := by simp; omega
  clear a1 a2 a3 a4 a5
  obtain ⟨c0, c1, c2, c3, c4, cf⟩ := F2.out.cells
  have f0 := cf 0; have f1 := cf 1; have f2 := cf 2; have f3 := cf 3; have f4 := cf 4; clear cf
  go_wp2_with fail
  exact ret_pat (p := .mk kd E0 0 E0 []) (S := Nix) rfl rfl F2.out RR2.out K2'.out (Nat.le_refl _) hN hW hr.out ⟨e0_lt, e0_lt, len0_lt⟩ (fun b hb => hb.elim) (by unfold PatsAt; trivial)
end Go.Proofs.YtlnhcgihpclpaaaGreatDoor
